/- Plain laws of comparing bytes and items, one by one: they answer whether two lists are the same; for lists of bytes that are from 0 to 255. -/
import Derived.Test.YtdhkmaiidbomdaaZBytes
import Derived.Test.YtdhkmaiidbomdaaPx1
namespace Go.Proofs.Ytdhkmaiidbomdaa.Z
open Go.RowKit Go.Proofs.Ytdhkmaiidbomdaa.P Go.Proofs.YtdhkmaiidbomdaaW.PrintWords Go.Proofs.YtdhkmaiidbomdaaW.PrintLast
set_option linter.unusedSimpArgs false
set_option linter.unusedVariables false

theorem wrap_succ {i : Nat} (h : i < maxLen) : wrap64 ((i : Int) + 1) = ((i + 1 : Nat) : Int) := by
  unfold maxLen at h
  unfold wrap64
  omega
theorem drop_eq_iff {α : Type} (d : α) (a b : List α) (i : Nat) (h : i < a.length) (g : i < b.length) : a.drop i = b.drop i ↔ a.getD i d = b.getD i d ∧ a.drop (i + 1) = b.drop (i + 1) := by
  have ha : a.drop i = a.getD i d :: a.drop (i + 1) := by rw [List.drop_eq_getElem_cons h]; simp [List.getD, List.getElem?_eq_getElem h]
  have hb : b.drop i = b.getD i d :: b.drop (i + 1) := by rw [List.drop_eq_getElem_cons g]; simp [List.getD, List.getElem?_eq_getElem g]
  rw [ha, hb]
  exact ⟨fun e => List.cons.inj e, fun e => by rw [e.1, e.2]⟩
theorem equal_l (a b : List Int) (hl : a.length = b.length) (hm : a.length ≤ maxLen) : ∀ d i k, a.length - i = d → d < k → i ≤ a.length →
    slices_Equal_byte_byte.l0 k a b (a.length : Int) (i : Int) = some (decide (a.drop i = b.drop i)) := by
  intro d
  induction d with
  | zero =>
    intro i k h1 h2 h3
    obtain ⟨k, rfl⟩ : ∃ m, k = m + 1 := ⟨k - 1, by omega⟩
    simp only [slices_Equal_byte_byte.l0]
    rw [if_neg (by omega), List.drop_eq_nil_of_le (by omega), List.drop_eq_nil_of_le (by omega)]
    simp
  | succ d ih =>
    intro i k h1 h2 h3
    obtain ⟨k, rfl⟩ : ∃ m, k = m + 1 := ⟨k - 1, by omega⟩
    simp only [slices_Equal_byte_byte.l0]
    rw [if_pos (by omega), if_pos (by omega), if_pos (by omega), if_pos (by omega), wrap_succ (by omega), ih (i + 1) k (by omega) (by omega) (by omega)]
    have hi := drop_eq_iff (0 : Int) a b i (by omega) (by omega)
    rw [show a.getD i 0 = rd a (i : Int) by simp [rd], show b.getD i 0 = rd b (i : Int) by simp [rd]] at hi
    by_cases hx : rd a (i : Int) = rd b (i : Int)
    · rw [if_pos hx]
      have : (a.drop i = b.drop i) = (a.drop (i + 1) = b.drop (i + 1)) := propext ⟨fun e => (hi.1 e).2, fun e => hi.2 ⟨hx, e⟩⟩
      simp only [this]
    · rw [if_neg hx]
      have : ¬ (a.drop i = b.drop i) := fun e => hx (hi.1 e).1
      simp [this]
theorem equal_eq (a b : List Int) (hm : a.length ≤ maxLen) (k : Nat) (hk : a.length < k) : slices_Equal_byte_byte.f k a b = some (decide (a = b)) := by
  unfold slices_Equal_byte_byte.f
  by_cases h : a.length = b.length
  · rw [if_pos (by omega)]
    have := equal_l a b h hm a.length 0 k (by omega) hk (by omega)
    simpa using this
  · rw [if_neg (by omega)]
    have : ¬ a = b := fun e => h (by rw [e])
    simp [this]
/-- The longest of some lists. -/
def top {α : Type} (f : α → Nat) : List α → Nat
  | [] => 0
  | x :: l => max (f x) (top f l)
theorem top_le {α : Type} (f : α → Nat) (l : List α) (x : α) (h : x ∈ l) : f x ≤ top f l := by
  induction l with
  | nil => cases h
  | cons y l ih =>
    simp only [top]
    rcases List.mem_cons.1 h with rfl | h
    · omega
    · have := ih h
      omega
theorem toList_inj {a b : ByteArray} : a.toList = b.toList ↔ a = b := by
  constructor
  · intro h
    rw [ByteArray.toList_eq, ByteArray.toList_eq] at h
    cases a
    cases b
    simp at h
    rw [h]
  · rintro rfl
    rfl
end Go.Proofs.Ytdhkmaiidbomdaa.Z
