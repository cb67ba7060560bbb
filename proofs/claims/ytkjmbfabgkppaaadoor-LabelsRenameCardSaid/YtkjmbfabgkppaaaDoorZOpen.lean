/- How an argument that can be read as data reads as a value of a kind: numbers, bools, strings, slices, structs. -/
import Derived.Deep.Slices
import Derived.ChangeArms
import Derived.ChangeMaps5
import Derived.Test.YtkjmbfabgkppaaaDoorWWords
namespace Go.Proofs.YtkjmbfabgkppaaaDoor.Z
open Go.RowKit Go.Deep Go.ChangeShapes Go.WideShapes Go.Proofs.YtkjmbfabgkppaaaDoorW.PrintWords

/-- Whatever cells can be read as data of type t are a value of kind d. -/
def Opens {α : Type} (P : Program) (d : Kd α) (t : TypeId) (wf : α → Prop) : Prop :=
  ∀ {H : Type} (enc : TypeId × Value → H) (w : World) (base : Nat) (spare : Nat → Bool) (held : Bool) (fuel : Nat) (cs : List Value) (y : DataW H × List MemPlace),
    DataW.trod enc P w base spare held fuel t cs = some y → ∃ x, d.K w x cs ∧ wf x
/-- The same of some fields, from a cell on. -/
def SegOpens {α : Type} (P : Program) (d : Kd α) (fs : List Field) (off : Nat) (wf : α → Prop) : Prop :=
  ∀ {H : Type} (enc : TypeId × Value → H) (w : World) (base : Nat) (spare : Nat → Bool) (held : Bool) (n : Nat) (cs : List Value),
    (∀ f ∈ fs, ∃ y, DataW.trod enc P w base spare held n f.type ((cs.drop f.offset).take (P.cellsOf f.type)) = some y) → cs.length = off + d.sz → ∃ x, d.K w x (cs.drop off) ∧ wf x
section
variable {P : Program} {t e : TypeId} {k : IntKind} {α β : Type} {d : Kd α} {d2 : Kd β} {wf : α → Prop} {wf2 : β → Prop}
theorem opens_int (ht : P.underlying t = some (.int k)) : Opens P (Kd.int k) t (fun x => (Lit.int k x).wf = true) := by
  intro H enc w base spare held fuel cs y h
  obtain ⟨n, hn, _, hw⟩ := DataW.trod_int ht h
  exact ⟨n, hn, hw⟩
theorem opens_bool (ht : P.underlying t = some .bool) : Opens P Kd.bool t (fun _ => True) := by
  intro H enc w base spare held fuel cs y h
  obtain ⟨n, hn, _⟩ := DataW.trod_bool ht h
  exact ⟨n, hn, trivial⟩
theorem opens_string (ht : P.underlying t = some .string) : Opens P Kd.string t (fun s => s.size ≤ maxLen) := by
  intro H enc w base spare held fuel cs y h
  obtain ⟨s, hs, _, hl⟩ := DataW.trod_string ht h
  exact ⟨s, hs, hl⟩
theorem opens_slice (ht : P.underlying t = some (.slice e)) (hc : P.cellsOf e = d.sz) (h : Opens P d e wf) : Opens P (Kd.slice e d) t (fun xs => xs.length ≤ maxLen ∧ ∀ x ∈ xs, wf x) := by
  intro H enc w base spare held fuel cs y hy
  rcases open_slice ht hy with ⟨rfl, _⟩ | ⟨a, len, cap, m, n, D, Pl, rfl, hb, hl, hm, hmm, _, hi⟩
  · exact ⟨[], ⟨none, 0, rfl, Nat.le_refl _, Kd.C_nil _ _⟩, Nat.zero_le _, fun x hx => by cases hx⟩
  · have hlm : len ≤ m := by rw [hmm]; split <;> omega
    have key : ∀ i : Fin len, ∃ (x : α), ∃ (c : List Value), w.cells? base (a.add (i.val * d.sz)) d.sz = some c ∧ d.K w x c ∧ wf x := by
      intro i
      obtain ⟨c, h1, h2⟩ := hi i.val (by omega)
      obtain ⟨x, hx, hw⟩ := h enc w base spare held n c _ h2
      exact ⟨x, c, by rw [← hc]; exact h1, hx, hw⟩
    have hlen : (List.ofFn fun i => Classical.choose (key i)).length = len := List.length_ofFn
    have hget : ∀ (j : Nat) (p : α), (List.ofFn fun i => Classical.choose (key i))[j]? = some p → ∃ hj : j < len, p = Classical.choose (key ⟨j, hj⟩) := by
      intro j p hp
      obtain ⟨hj, e⟩ := List.getElem?_eq_some_iff.1 hp
      rw [List.getElem_ofFn] at e
      exact ⟨by omega, e.symm⟩
    refine ⟨List.ofFn fun i => Classical.choose (key i), ⟨some a, cap, by rw [hlen], by omega, hlen.trans hlen.symm, ?_, fun _ => ⟨a, rfl, fun j p hp => ?_⟩⟩, by unfold maxLen at *; omega, fun x hx => ?_⟩
    · unfold maxLen at hm
      omega
    · obtain ⟨hj, rfl⟩ := hget j p hp
      obtain ⟨c, h1, h2, _⟩ := Classical.choose_spec (key ⟨j, hj⟩)
      obtain ⟨_, hcl, hat⟩ := World.cells?_some h1
      refine ⟨c, hcl, h2, fun i u hu => ?_⟩
      have hi2 := (List.getElem?_eq_some_iff.1 hu).1
      have := hat i (by omega)
      rw [← Go.Deep.add_add, this]
      exact hu
    · obtain ⟨j, hx2⟩ := List.getElem?_of_mem hx
      obtain ⟨hj, rfl⟩ := hget j x hx2
      obtain ⟨_, _, _, hw⟩ := Classical.choose_spec (key ⟨j, hj⟩)
      exact hw
theorem opens_iso {f : β → α} (g : α → β) (hg : ∀ x, f (g x) = x) (h : Opens P d t wf) : Opens P (Kd.iso d f) t (fun x => wf (f x)) := by
  intro H enc w base spare held fuel cs y hy
  obtain ⟨x, hx, hw⟩ := h enc w base spare held fuel cs y hy
  exact ⟨g x, by show d.K w (f (g x)) cs; rw [hg]; exact hx, by show wf (f (g x)); rw [hg]; exact hw⟩
theorem seg_one {f : Field} {off : Nat} (ho : f.offset = off) (hc : P.cellsOf f.type = d.sz) (h : Opens P d f.type wf) : SegOpens P d [f] off wf := by
  intro H enc w base spare held n cs hf hl
  obtain ⟨y, hy⟩ := hf f (by simp)
  rw [ho, hc, List.take_of_length_le (by rw [List.length_drop]; omega)] at hy
  exact h enc w base spare held n _ y hy
theorem seg_cons {f : Field} {fs : List Field} {off : Nat} (ho : f.offset = off) (hc : P.cellsOf f.type = d.sz) (h : Opens P d f.type wf) (h2 : SegOpens P d2 fs (off + d.sz) wf2) :
    SegOpens P (Kd.pair d d2) (f :: fs) off (fun x => wf x.1 ∧ wf2 x.2) := by
  intro H enc w base spare held n cs hf hl
  have hl' : cs.length = off + (d.sz + d2.sz) := hl
  obtain ⟨y, hy⟩ := hf f (by simp)
  rw [ho, hc] at hy
  obtain ⟨x1, hx1, hw1⟩ := h enc w base spare held n _ y hy
  obtain ⟨x2, hx2, hw2⟩ := h2 enc w base spare held n cs (fun g hg => hf g (by simp [hg])) (by omega)
  refine ⟨(x1, x2), ⟨(cs.drop off).take d.sz, cs.drop (off + d.sz), ?_, hx1, hx2⟩, hw1, hw2⟩
  rw [← List.drop_drop, List.take_append_drop]
theorem opens_struct {fs : Array Field} (ht : P.underlying t = some (.struct fs)) (hc : P.cellsOf t = d.sz) (h : SegOpens P d fs.toList 0 wf) : Opens P d t wf := by
  intro H enc w base spare held fuel cs y hy
  obtain ⟨ys, n, _, _, hlen, hyl, hf⟩ := DataW.trod_struct ht hy
  obtain ⟨x, hx, hw⟩ := h enc w base spare held n cs (fun f hfm => by
    obtain ⟨i, hi⟩ := List.getElem?_of_mem hfm
    have h1 := hf i f (by rw [← Array.getElem?_toList]; exact hi)
    have hi2 := (List.getElem?_eq_some_iff.1 hi).1
    rw [Array.length_toList] at hi2
    exact ⟨ys[i]'(by omega), h1.trans (List.getElem?_eq_getElem _)⟩) (by omega)
  exact ⟨x, by simpa using hx, hw⟩
end
end Go.Proofs.YtkjmbfabgkppaaaDoor.Z
