/- Texts of this seat in one (ZLineWr), what nothing speaks of left out: by pack.py, a program of this session. -/
import Derived.Test.YtbfndlfemhidaaaGreatDoorPx8
import Derived.Test.YtbfndlfemhidaaaGreatDoorPx7
import Derived.Test.YtbfndlfemhidaaaGreatDoorPx13
import Derived.Test.YtbfndlfemhidaaaGreatDoorPx9
import Derived.Test.YtbfndlfemhidaaaGreatDoorPx11
import Derived.Test.YtbfndlfemhidaaaGreatDoorZExprTok
import Derived.Test.YtbfndlfemhidaaaGreatDoorK1
/- What the printed functions that write a line compute, on lists of bytes. -/
namespace Go.Proofs.YtbfndlfemhidaaaGreatDoor.LnW
open Go.RowKit Go.Proofs.YtbfndlfemhidaaaGreatDoor.LexP Go.Proofs.YtbfndlfemhidaaaGreatDoor.P Go.Proofs.YtbfndlfemhidaaaGreatDoor.P.ZT Go.Proofs.YtbfndlfemhidaaaGreatDoorW.PrintWords Go.Proofs.YtbfndlfemhidaaaGreatDoorW.PrintLast Go.Proofs.YtbfndlfemhidaaaGreatDoorW.PrintMore Go.Proofs.YtbfndlfemhidaaaGreatDoor.Lex Go.Proofs.YtbfndlfemhidaaaGreatDoor.Ex
set_option linter.unusedVariables false
set_option linter.unusedSimpArgs false
theorem wf64 {x : Int} (h : (Lit.int .i64 x).wf = true) : -9223372036854775808 ≤ x ∧ x < 9223372036854775808 := by
 simp [Lit.wf, IntKind.min, IntKind.max, IntKind.signed, IntKind.bits] at h
 omega
theorem wfu8 {x : Int} (h : (Lit.int .u8 x).wf = true) : 0 ≤ x ∧ x ≤ 255 := by
 simp [Lit.wf, IntKind.min, IntKind.max, IntKind.signed, IntKind.bits] at h
 omega
def okS (M : Nat) (x : S61) : Prop := 0 ≤ x.f0 ∧ x.f1.size ≤ M ∧ numOk (toTok x)
theorem joinL_cons (a : List UInt8) (l : List (List UInt8)) : joinL (a :: l) = a ++ Lib.joinTail [32] l := by
 induction l generalizing a with
 | nil => simp [joinL, Lib.joinTail]
 | cons b l ih =>
  show a ++ 32 :: joinL (b :: l) = _
  rw [ih b]
  simp [Lib.joinTail]
theorem join_join (l : List (List UInt8)) : Lib.join l [32] = joinL l := by
 cases l with
 | nil => rfl
 | cons a l => rw [Lib.join_cons, joinL_cons]
theorem join_len (M : Nat) : ∀ l : List (List UInt8), (∀ x ∈ l, x.length ≤ M) → (joinL l).length ≤ l.length * (M + 1)
 | [], _ => by simp [joinL]
 | [a], h => by
  have := h a (by simp)
  simp only [joinL, List.length_cons, List.length_nil]
  omega
 | a :: b :: l, h => by
  have h1 := h a (by simp)
  have h2 := join_len M (b :: l) (fun x hx => h x (by simp [hx]))
  simp only [joinL, List.length_append, List.length_cons] at *
  rw [Nat.add_mul (l.length + 1) 1]
  omega
theorem shown_len : ∀ (s b z : List UInt8), shownL s b = some z → z.length ≤ b.length + 2 * s.length + 1
 | [], b, z, h => by
  simp only [shownL, Option.some.injEq] at h
  subst h
  simp
 | c :: t, b, z, h => by
  simp only [shownL] at h
  by_cases h0 : unescL c ≠ 0
  ·
   rw [if_pos h0] at h
   have := shown_len t _ z h
   simp only [List.length_append, List.length_cons, List.length_nil] at *
   omega
  ·
   rw [if_neg h0] at h
   by_cases h1 : plainC c = true
   ·
    rw [if_pos h1] at h
    have := shown_len t _ z h
    simp only [List.length_append, List.length_cons, List.length_nil] at *
    omega
   ·
    rw [if_neg h1] at h
    exact absurd h (by simp)
theorem text_len (x : Tok) : (textL x).1.length ≤ 2 * x.t.length + 40 := by
 unfold textL
 split
 ·
  simp only
  omega
 split
 ·
  simp only
  omega
 split
 ·
  split
  ·
   simp
  ·
   rename_i s hs
   have := shown_len _ _ _ hs
   simp only [List.length_cons, List.length_nil] at *
   omega
 split
 ·
  split
  ·
   rename_i hr
   have := dec_len 18 x.n.toNat (by decide) (by omega)
   simp only
   omega
  ·
   simp only [List.length_append, hexPad_len, List.length_cons, List.length_nil]
   omega
 ·
  simp
theorem rd_at (l : List S61) (i : Nat) (h : i < l.length) : rd_T61 l (i : Int) = l[i] := by
 simp [rd_T61, List.getD, List.getElem?_eq_getElem h]
theorem all_take {l : List S61} {i : Nat} (h : i < l.length) (ha : ∀ x ∈ l.take i, mayL (toTok x) = true) (hb : mayL (toTok l[i]) = true) : ∀ x ∈ l.take (i + 1), mayL (toTok x) = true := by
 intro x hx
 rw [List.take_succ_eq_append_getElem h, List.mem_append] at hx
 rcases hx with hx | hx
 ·
  exact ha x hx
 ·
  simp at hx
  rw [hx]
  exact hb
theorem not_all {l : List S61} {i : Nat} (h : i < l.length) (hb : mayL (toTok l[i]) = false) : (l.map toTok).all mayL = false := by
 rw [List.all_eq_false]
 exact ⟨toTok l[i], List.mem_map.2 ⟨_, List.getElem_mem h, rfl⟩, by simp [hb]⟩
theorem write_loop (M : Nat) (hM : M ≤ 10000000) (l : List S61) (hb : l.length ≤ 64) (ok : ∀ x ∈ l, okS M x) : ∀ (d i k : Nat), l.length = i + d → M + d + 10 ≤ k → (∀ x ∈ l.take i, mayL (toTok x) = true) →
  lex_Write.l0 k ((l.take i).map fun x => ⟨(textL (toTok x)).1.toArray⟩) l (l.length : Int) (i : Int) = some (⟨(writeL (l.map toTok)).1.toArray⟩, ((writeL (l.map toTok)).2 : Int)) := by
 intro d
 induction d with
 | zero =>
  intro i k hi hk hall
  obtain ⟨k, rfl⟩ : ∃ m, k = m + 1 := ⟨k - 1, by omega⟩
  have htk : l.take i = l := List.take_of_length_le (by omega)
  rw [htk] at hall ⊢
  simp only [lex_Write.l0]
  rw [if_neg (by omega)]
  have hm : ((l.map fun x => (⟨(textL (toTok x)).1.toArray⟩ : ByteArray)).map (·.data.toList)) = (l.map toTok).map fun x => (textL x).1 := by
   simp [List.map_map, Function.comp_def]
  have h32 : (⟨#[32]⟩ : ByteArray).data.toList = [32] := rfl
  unfold strings_Join.f
  rw [hm, h32, join_join, List.length_map]
  have hlen := join_len (2 * M + 40) ((l.map toTok).map fun x => (textL x).1) (by
   intro y hy
   obtain ⟨t, ht, rfl⟩ := List.mem_map.1 hy
   obtain ⟨x, hx, rfl⟩ := List.mem_map.1 ht
   have h1 := text_len (toTok x)
   have h2 := (ok x hx).2.1
   have h3 : (toTok x).t.length = x.f1.size := size_data _
   omega)
  rw [List.length_map, List.length_map] at hlen
  have hmul : l.length * (2 * M + 40 + 1) ≤ 64 * (2 * M + 40 + 1) := Nat.mul_le_mul_right _ hb
  rw [if_pos ⟨by omega, by omega⟩]
  simp only [Option.bind_some]
  have hal : (l.map toTok).all mayL = true := by
   rw [List.all_eq_true]
   intro y hy
   obtain ⟨x, hx, rfl⟩ := List.mem_map.1 hy
   exact hall x hx
  unfold writeL
  rw [if_neg (show ¬ 64 < (l.map toTok).length by rw [List.length_map]; omega), if_neg (show ¬ (l.map toTok).all mayL = false by rw [hal]; simp), size_of]
  by_cases h256 : 256 < (joinL ((l.map toTok).map fun x => (textL x).1)).length
  ·
   rw [if_pos (by omega), if_pos h256]
   rfl
  ·
   rw [if_neg (by omega), if_neg h256]
   rfl
 | succ d ih =>
  intro i k hi hk hall
  obtain ⟨k, rfl⟩ : ∃ m, k = m + 1 := ⟨k - 1, by omega⟩
  have hlt : i < l.length := by omega
  have hx := ok l[i] (List.getElem_mem hlt)
  have hsz : (toTok l[i]).t.length = l[i].f1.size := size_data _
  simp only [lex_Write.l0]
  rw [if_pos (by omega), if_pos (by omega), if_pos (by omega), rd_at l i hlt, text_f l[i] hx.1 (by have := hx.2.1; omega) hx.2.2 k (by have := hx.2.1; omega)]
  simp only [Option.bind_some]
  by_cases hmay : mayL (toTok l[i]) = true
  ·
   rw [if_pos (show (textL (toTok l[i])).2 = true from hmay), if_pos (by rw [List.length_map, List.length_take]; omega), wrap_succ (by omega)]
   have h := ih (i + 1) k (by omega) (by omega) (all_take hlt hall hmay)
   rw [List.take_succ_eq_append_getElem hlt, List.map_append] at h
   exact h
  ·
   have hf : mayL (toTok l[i]) = false := by simpa using hmay
   rw [if_neg (show ¬ (textL (toTok l[i])).2 = true from hmay)]
   unfold writeL
   rw [if_neg (by rw [List.length_map]; omega), if_pos (not_all hlt hf)]
   rfl
theorem write_f (M : Nat) (hM : M ≤ 10000000) (l : List S61) (ok : ∀ x ∈ l, okS M x) (k : Nat) (hk : M + 100 ≤ k) : lex_Write.f k l = some (⟨(writeL (l.map toTok)).1.toArray⟩, ((writeL (l.map toTok)).2 : Int)) := by
 unfold lex_Write.f
 by_cases h : 64 < l.length
 ·
  rw [if_pos (by omega)]
  unfold writeL
  rw [if_pos (by rw [List.length_map]; exact h)]
  rfl
 ·
  rw [if_neg (by omega)]
  exact write_loop M hM l (by omega) ok l.length 0 k (by omega) (by omega) (by simp)
end Go.Proofs.YtbfndlfemhidaaaGreatDoor.LnW
