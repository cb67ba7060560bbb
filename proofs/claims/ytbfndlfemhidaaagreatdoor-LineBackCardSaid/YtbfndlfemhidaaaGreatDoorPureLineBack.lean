/- Texts of this seat in one (PureLineBack), what nothing speaks of left out: by pack.py, a program of this session. -/
import Derived.Test.YtbfndlfemhidaaaGreatDoorPx26
import Derived.Test.YtbfndlfemhidaaaGreatDoorPx15
import Derived.Test.YtbfndlfemhidaaaGreatDoorZLineSame
/- What is written is read back. -/
namespace Go.Proofs.YtbfndlfemhidaaaGreatDoor.Pure
open Go.RowKit Go.Proofs.YtbfndlfemhidaaaGreatDoor.LexP Go.Proofs.YtbfndlfemhidaaaGreatDoor.P Go.Proofs.YtbfndlfemhidaaaGreatDoor.P.ZT Go.Proofs.YtbfndlfemhidaaaGreatDoor.LnW Go.Proofs.YtbfndlfemhidaaaGreatDoorW.PrintWords Go.Proofs.YtbfndlfemhidaaaGreatDoorW.PrintLast Go.Proofs.YtbfndlfemhidaaaGreatDoor.Lex Go.Proofs.YtbfndlfemhidaaaGreatDoor.Ex Go.Proofs.YtbfndlfemhidaaaGreatDoor.Li
set_option linter.unusedSimpArgs false
set_option linter.unusedVariables false
theorem mn_nat (a b : Nat) : mn (a : Int) (b : Int) = ((min a b : Nat) : Int) := by
 unfold mn
 split <;> omega
theorem wrap_add {a b : Nat} (h : a + b < 9223372036854775807) : wrap64 ((a : Int) + (b : Int)) = ((a + b : Nat) : Int) := by unfold wrap64; omega
theorem wrap_add3 (n a b c : Nat) (h : n + (a + b + c) < 9223372036854775807) : wrap64 ((n : Int) + ((a : Int) + (b : Int) + (c : Int))) = ((n + (a + b + c) : Nat) : Int) := by unfold wrap64; omega
theorem great_end (L : List ByteArray) (l : List A) (n i : Nat) (hi : l.length ≤ i ∨ 50 ≤ i) : ∃ g, (if (L.length : Int) > 100 then some true else if (l.length : Int) > 20 then some true else some (decide ((n : Int) > 20000))) = some g ∧ (g = false → L.length ≤ 100 ∧ l.length ≤ 20 ∧ n ≤ 20000 ∧ ∀ j, i ≤ j → (h : j < l.length) → l[j].f3.size ≤ 20000 ∧ l[j].f2.f0.size ≤ 20000 ∧ l[j].f2.f1.size ≤ 20000) := by
  by_cases c1 : (L.length : Int) > 100
  · exact ⟨true, by rw [if_pos c1], fun h => by cases h⟩
  by_cases c2 : (l.length : Int) > 20
  · exact ⟨true, by rw [if_neg c1, if_pos c2], fun h => by cases h⟩
  · exact ⟨_, by rw [if_neg c1, if_neg c2], fun h => ⟨by omega, by omega, by have := of_decide_eq_false h; omega, fun j hj hlt => by omega⟩⟩
theorem great1 (L : List ByteArray) (w : ByteArray) (l : List A) : ∀ (d i n k : Nat), i + d = 50 → d + 1 < k → n ≤ 100000000 + 300000 * i →
  ∃ g, quoinref17_Great.l1 k (n : Int) (i : Int) L w l = some g ∧ (g = false → L.length ≤ 100 ∧ l.length ≤ 20 ∧ n ≤ 20000 ∧ ∀ j, i ≤ j → (h : j < l.length) → l[j].f3.size ≤ 20000 ∧ l[j].f2.f0.size ≤ 20000 ∧ l[j].f2.f1.size ≤ 20000) := by
 intro d
 induction d with
 | zero =>
  intro i n k hi hk hn
  obtain ⟨k, rfl⟩ : ∃ m, k = m + 1 := ⟨k - 1, by omega⟩
  obtain ⟨g, hg, h⟩ := great_end L l n i (.inr (by omega))
  refine ⟨g, ?_, h⟩
  simp only [quoinref17_Great.l1]
  by_cases c : (i : Int) < (l.length : Int)
  ·
   rw [if_pos c, if_neg (by omega)]; exact hg
  ·
   rw [if_neg c]; exact hg
 | succ d ih =>
  intro i n k hi hk hn
  obtain ⟨k, rfl⟩ : ∃ m, k = m + 1 := ⟨k - 1, by omega⟩
  simp only [quoinref17_Great.l1]
  by_cases c : (i : Int) < (l.length : Int)
  ·
   have hlt : i < l.length := by omega
   have hm : ∀ a : Nat, mn (a : Int) 100000 = ((min a 100000 : Nat) : Int) := fun a => mn_nat a 100000
   rw [if_pos c, if_pos (by omega), if_pos (by omega), rda l i hlt, hm, hm, hm, wrap_succ (by omega)]
   have b1 : min l[i].f3.size 100000 ≤ 100000 := Nat.min_le_right _ _
   have b2 : min l[i].f2.f0.size 100000 ≤ 100000 := Nat.min_le_right _ _
   have b3 : min l[i].f2.f1.size 100000 ≤ 100000 := Nat.min_le_right _ _
   rw [wrap_add3 _ _ _ _ (by omega)]
   obtain ⟨g, hg, h⟩ := ih (i + 1) (n + (min l[i].f3.size 100000 + min l[i].f2.f0.size 100000 + min l[i].f2.f1.size 100000)) k (by omega) (by omega) (by omega)
   refine ⟨g, hg, fun hf => ?_⟩
   obtain ⟨a, b, e, f⟩ := h hf
   refine ⟨a, b, by omega, fun j hj hlt => ?_⟩
   by_cases he : j = i
   ·
    subst he
    omega
   ·
    exact f j (by omega) hlt
  ·
   obtain ⟨g, hg, h⟩ := great_end L l n i (.inl (by omega))
   exact ⟨g, by rw [if_neg c]; exact hg, h⟩
theorem great0 (L : List ByteArray) (w : ByteArray) (l : List A) : ∀ (d i n k : Nat), i + d = 200 → d + 100 < k → n ≤ 100000 + 100000 * i →
  ∃ g, quoinref17_Great.l0 k (n : Int) (i : Int) L w l = some g ∧ (g = false → L.length ≤ 100 ∧ l.length ≤ 20 ∧ n ≤ 20000 ∧ (∀ j, i ≤ j → (h : j < L.length) → L[j].size ≤ 20000) ∧ ∀ x ∈ l, x.f3.size ≤ 20000 ∧ x.f2.f0.size ≤ 20000 ∧ x.f2.f1.size ≤ 20000)
 | d, i, n, 0, _, hk, _ => by omega
 | d, i, n, k + 1, hi, hk, hn => by
  have out : ∃ g, quoinref17_Great.j1 k (n : Int) L w l = some g ∧ (g = false → L.length ≤ 100 ∧ l.length ≤ 20 ∧ n ≤ 20000 ∧ ∀ x ∈ l, x.f3.size ≤ 20000 ∧ x.f2.f0.size ≤ 20000 ∧ x.f2.f1.size ≤ 20000) := by
   obtain ⟨k, rfl⟩ : ∃ m, k = m + 1 := ⟨k - 1, by omega⟩
   obtain ⟨g, hg, h⟩ := great1 L w l 50 0 n k rfl (by omega) (by omega)
   refine ⟨g, hg, fun hf => ?_⟩
   obtain ⟨a, b, c, e⟩ := h hf
   refine ⟨a, b, c, fun x hx => ?_⟩
   obtain ⟨j, hj, rfl⟩ := List.mem_iff_getElem.1 hx
   exact e j (by omega) hj
  rw [quoinref17_Great.l0]
  by_cases c : (i : Int) < (L.length : Int)
  ·
   rw [if_pos c]
   match d, hi, hk with
   | 0, hi, hk =>
    obtain ⟨g, hg, h⟩ := out
    rw [if_neg (by omega)]
    refine ⟨g, hg, fun hf => ?_⟩
    have := h hf
    omega
   | d + 1, hi, hk =>
    have hlt : i < L.length := by omega
    rw [if_pos (by omega), if_pos (by omega), rdo L i hlt, show mn (L[i].size : Int) 100000 = ((min L[i].size 100000 : Nat) : Int) from mn_nat _ 100000, wrap_succ (by omega), wrap_add (by omega)]
    obtain ⟨g, hg, h⟩ := great0 L w l d (i + 1) (n + min L[i].size 100000) k (by omega) (by omega) (by omega)
    refine ⟨g, hg, fun hf => ?_⟩
    obtain ⟨a, b, e, f, z⟩ := h hf
    refine ⟨a, b, by omega, fun j hj hlt => ?_, z⟩
    by_cases he : j = i
    ·
     subst he
     omega
    ·
     exact f j (by omega) hlt
  ·
   rw [if_neg c]
   obtain ⟨g, hg, h⟩ := out
   refine ⟨g, hg, fun hf => ?_⟩
   obtain ⟨a, b, e, z⟩ := h hf
   exact ⟨a, b, e, fun j hj hlt => by omega, z⟩
theorem great_f (L : List ByteArray) (w : ByteArray) (l : List A) (k : Nat) (hk : 400 ≤ k) :
  ∃ g, quoinref17_Great.f k L w l = some g ∧ (g = false → L.length ≤ 100 ∧ l.length ≤ 20 ∧ w.size ≤ 20000 ∧ (∀ s ∈ L, s.size ≤ 20000) ∧ ∀ x ∈ l, x.f3.size ≤ 20000 ∧ x.f2.f0.size ≤ 20000 ∧ x.f2.f1.size ≤ 20000) := by
 unfold quoinref17_Great.f
 rw [show mn (w.size : Int) 100000 = ((min w.size 100000 : Nat) : Int) from mn_nat _ 100000]
 obtain ⟨g, hg, h⟩ := great0 L w l 200 0 (min w.size 100000) k rfl (by omega) (by omega)
 refine ⟨g, hg, fun hf => ?_⟩
 obtain ⟨a, b, c, e, z⟩ := h hf
 refine ⟨a, b, by omega, fun s hs => ?_, z⟩
 obtain ⟨j, hj, rfl⟩ := List.mem_iff_getElem.1 hs
 exact e j (by omega) hj
theorem wf64 {x : Int} (h : (Lit.int .i64 x).wf = true) : -9223372036854775808 ≤ x ∧ x < 9223372036854775808 := by
 simp [Lit.wf, IntKind.min, IntKind.max, IntKind.signed, IntKind.bits] at h
 omega
theorem wfu8 {x : Int} (h : (Lit.int .u8 x).wf = true) : 0 ≤ x ∧ x ≤ 255 := by
 simp [Lit.wf, IntKind.min, IntKind.max, IntKind.signed, IntKind.bits] at h
 omega
theorem LineBack : quoinlaw17_LineBack.Pure := by
 intro L w l hL hw hl
 refine ⟨5000000, ?_⟩
 generalize hK : (5000000 : Nat) = k
 unfold quoinlaw17_LineBack.f
 rw [alive_f k]
 simp only [Option.bind_some]
 obtain ⟨g, hg, hgf⟩ := great_f L w l k (by omega)
 rw [hg]
 simp only [Option.bind_some]
 obtain ⟨k, rfl⟩ : ∃ m, k = m + 1 := ⟨k - 1, by omega⟩
 cases g with
 | true =>
  rw [if_pos rfl]
  rfl
 | false =>
  obtain ⟨n1, n2, n3, n4, n5⟩ := hgf rfl
  have ok : okL L w l := ⟨by omega, fun s hs => by have := n4 s hs; omega, by omega, fun x hx => by
   have hx5 := n5 x hx
   have hwf := hl.2 x hx
   exact ⟨wf64 hwf.2.1, ⟨by omega, by omega, wf64 hwf.2.2.1.2.2.1, wfu8 hwf.2.2.1.2.2.2⟩, by omega⟩⟩
  rw [if_neg (by simp)]
  simp only [quoinlaw17_LineBack.j0, Bool.not_true, Bool.false_eq_true, if_false]
  cases ht : lineT L w l with
  | none =>
   rw [write_no ok ht k (by omega)]
   simp only [Option.bind_some]
   rw [if_neg (by omega), nil_t]
  | some t =>
   rw [write_ok ok ht k (by omega)]
   simp only [Option.bind_some]
   by_cases h0 : (writeL t).2 = 0
   ·
    obtain ⟨hr, hlen⟩ := lwritten ok ht h0
    rw [if_pos (by rw [h0]; rfl), read_f _ (by rw [size_of]; omega), hr]
    simp only [Option.bind_some]
    rw [if_pos (by rfl), same_f L w l (by omega) (by omega) k (by omega)]
    rfl
   ·
    rw [if_neg (by omega), write_zero h0, nil_t]
end Go.Proofs.YtbfndlfemhidaaaGreatDoor.Pure
