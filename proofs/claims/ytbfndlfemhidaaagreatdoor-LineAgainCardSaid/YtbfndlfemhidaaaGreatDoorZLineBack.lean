/- Texts of this seat in one (ZLineBack), what nothing speaks of left out: by pack.py, a program of this session. -/
import Derived.Test.YtbfndlfemhidaaaGreatDoorZLineTk
/- What a line's tokens are read as: plain Lean on lists. -/
namespace Go.Proofs.YtbfndlfemhidaaaGreatDoor.LnW
open Go.RowKit Go.Proofs.YtbfndlfemhidaaaGreatDoor.LexP Go.Proofs.YtbfndlfemhidaaaGreatDoor.P Go.Proofs.YtbfndlfemhidaaaGreatDoor.P.ZT Go.Proofs.YtbfndlfemhidaaaGreatDoor.P.LD Go.Proofs.YtbfndlfemhidaaaGreatDoorW.PrintWords Go.Proofs.YtbfndlfemhidaaaGreatDoorW.PrintLast Go.Proofs.YtbfndlfemhidaaaGreatDoorW.PrintMore Go.Proofs.YtbfndlfemhidaaaGreatDoor.Lex Go.Proofs.YtbfndlfemhidaaaGreatDoor.Ex Go.Proofs.YtbfndlfemhidaaaGreatDoor.Li
set_option linter.unusedVariables false
set_option linter.unusedSimpArgs false
theorem reg_facts : ∀ n, n < 32 → (regNames.getD n []).length ≤ 4 ∧ nameL (regNames.getD n []) = true ∧ regL (regNames.getD n []) = some n := by decide +kernel
theorem regB_nat {n : Int} (h : regB n = true) : ∃ m : Nat, n = m ∧ m < 32 := by
 unfold regB at h
 simp only [Bool.and_eq_true, decide_eq_true_eq] at h
 exact ⟨n.toNat, by omega, by omega⟩
theorem cal_reg {n : Int} (h : regB n = true) : regL (calT n).t = some n.toNat ∧ nameL (calT n).t = true ∧ (calT n).t.length ≤ 4 := by
 obtain ⟨m, rfl, hm⟩ := regB_nat h
 have := reg_facts m hm
 unfold calT
 rw [Int.toNat_natCast]
 exact ⟨this.2.2, this.2.1, this.1⟩
def fineT (t : Tok) : Prop := t.t.length ≤ 100000 ∧ numOk t
theorem fine_num0 (k : Nat) {s : List UInt8} (h : s.length ≤ 100000) : fineT ⟨k, s, 0⟩ := ⟨h, by show (-9223372036854775808 : Int) ≤ 0; omega, by show (0 : Int) < 9223372036854775808; omega⟩
theorem fine_mk (c : UInt8) : fineT (mk c) := fine_num0 4 (by simp)
theorem label_fine {s : List UInt8} {t : Tok} (h : labelL s = some t) (hs : s.length ≤ 100000) : fineT t ∧ (t = ⟨1, s, 0⟩ ∧ plainL s = true ∨ t = ⟨2, [], (decNat s : Int)⟩ ∧ plainL s = false ∧ countL s = true ∧ decNat s < 1000000000) := by
 unfold labelL at h
 by_cases hp : plainL s = true
 ·
  rw [if_pos hp] at h
  cases h
  exact ⟨fine_num0 1 hs, .inl ⟨rfl, hp⟩⟩
 ·
  rw [if_neg hp] at h
  by_cases hc : countL s = true
  ·
   rw [if_pos hc] at h
   cases h
   have := (LL.count_ok ⟨s.toArray⟩ (by simpa using hc)).2
   have hd : decNat s < 1000000000 := by simpa using this
   exact ⟨⟨by simp, by show (-9223372036854775808 : Int) ≤ (decNat s : Int); omega, by show (decNat s : Int) < _; omega⟩, .inr ⟨rfl, by simpa using hp, hc, hd⟩⟩
  ·
   rw [if_neg hc] at h
   cases h
theorem xnum {e : E} (h : okE e) : numX (xOf e) := h.n
theorem sum_check {x : X} (h : sumB x = true) : checkL x = true ∧ (decide (x.m = 0) && (regL x.s).isSome) = false := by
 unfold sumB at h
 rw [Bool.and_eq_true, Bool.not_eq_true'] at h
 exact h
theorem told_fine {x : A} (ok : okA x) {t : List Tok} (h : toldT x = some t) : ∀ y ∈ t, fineT y := by
 have hx : ∀ (_ : sumB (xOf x.f2) = true), ∀ y ∈ toksX (xOf x.f2), fineT y := fun hs y hy =>
  ⟨by have := ZU.toks_size (sum_check hs).1 y hy; omega, (toks_may (sum_check hs).1 (xnum ok.e) y hy).2⟩
 unfold toldT at h
 split at h
 ·
  split at h
  ·
   cases h
   intro y hy
   rw [List.mem_singleton] at hy
   rw [hy]
   exact fine_num0 3 (by have := ok.t; rw [size_data]; omega)
  ·
   cases h
 split at h
 ·
  split at h
  ·
   rename_i hc
   cases h
   intro y hy
   rw [List.mem_singleton] at hy
   rw [hy]
   exact fine_num0 1 (by have := (cal_reg hc.2).2.2; unfold calT at this; simp only at this; omega)
  ·
   cases h
 split at h
 ·
  split at h
  ·
   rename_i hc
   cases h
   exact hx hc.2
  ·
   cases h
 split at h
 ·
  split at h
  ·
   rename_i hc
   cases h
   intro y hy
   rw [List.mem_append] at hy
   rcases hy with hy | hy
   ·
    exact hx hc.2.1 y hy
   ·
    simp only [List.mem_cons, List.not_mem_nil, or_false] at hy
    rcases hy with rfl | rfl | rfl
    ·
     exact fine_mk 40
    ·
     exact fine_num0 1 (by have := (cal_reg hc.2.2).2.2; unfold calT at this; simp only at this; omega)
    ·
     exact fine_mk 41
  ·
   cases h
 ·
  cases h
theorem labs_fine : ∀ {l : List (List UInt8)} {p : List Tok}, labsT l = some p → (∀ s ∈ l, s.length ≤ 100000) → ∀ y ∈ p, fineT y
 | [], p, h, _ => by cases h; simp
 | s :: r, p, h, hs => by
  rw [labsT] at h
  cases hl : labelL s with
  | none => rw [hl] at h; cases h
  | some t =>
   rw [hl] at h
   cases hr : labsT r with
   | none => rw [hr] at h; cases h
   | some q =>
    rw [hr] at h
    cases h
    intro y hy
    simp only [List.mem_cons] at hy
    rcases hy with rfl | rfl | hy
    ·
     exact (label_fine hl (hs _ (by simp))).1
    ·
     exact fine_mk 58
    ·
     exact labs_fine hr (fun s h => hs s (by simp [h])) y hy
theorem args_fine : ∀ {l : List A} {p : List Tok}, argsT l = some p → (∀ x ∈ l, okA x) → ∀ y ∈ p, fineT y
 | [], p, h, _ => by cases h; simp
 | x :: r, p, h, hs => by
  rw [argsT] at h
  cases hl : toldT x with
  | none => rw [hl] at h; cases h
  | some t =>
   rw [hl] at h
   cases hr : argsT r with
   | none => rw [hr] at h; cases h
   | some q =>
    rw [hr] at h
    cases h
    intro y hy
    simp only [List.mem_cons, List.mem_append] at hy
    rcases hy with rfl | hy | hy
    ·
     exact fine_mk 44
    ·
     exact told_fine (hs _ (by simp)) hl y hy
    ·
     exact args_fine hr (fun s h => hs s (by simp [h])) y hy
structure okL (L : List ByteArray) (w : ByteArray) (l : List A) : Prop where
 n : L.length ≤ 1000
 s : ∀ s ∈ L, s.size ≤ 100000
 w : w.size ≤ 100000
 a : ∀ x ∈ l, okA x
theorem line_parts {L : List ByteArray} {w : ByteArray} {l : List A} {t : List Tok} (h : lineT L w l = some t) : ∃ p q, labsT (L.map (·.data.toList)) = some p ∧ wordB w l.length = true ∧ argsT l = some q ∧ t = p ++ wordT w ++ q.tail := by
 unfold lineT at h
 cases hp : labsT (L.map (·.data.toList)) with
 | none => rw [hp] at h; cases h
 | some p =>
  rw [hp] at h
  simp only at h
  by_cases hb : wordB w l.length = true
  ·
   rw [if_pos hb] at h
   cases hq : argsT l with
   | none => rw [hq] at h; cases h
   | some q =>
    rw [hq] at h
    cases h
    exact ⟨p, q, rfl, hb, rfl, rfl⟩
  ·
   rw [if_neg hb] at h
   cases h
theorem line_fine {L : List ByteArray} {w : ByteArray} {l : List A} (ok : okL L w l) {t : List Tok} (h : lineT L w l = some t) : ∀ y ∈ t, fineT y := by
 obtain ⟨p, q, hp, _, hq, rfl⟩ := line_parts h
 intro y hy
 rw [List.mem_append, List.mem_append] at hy
 rcases hy with (hy | hy) | hy
 ·
  refine labs_fine hp (fun s hs => ?_) y hy
  obtain ⟨b, hb, rfl⟩ := List.mem_map.1 hs
  have := ok.s b hb
  rw [size_data]; omega
 ·
  unfold wordT at hy
  split at hy
  ·
   simp at hy
  ·
   rw [List.mem_singleton] at hy
   rw [hy]
   exact fine_num0 1 (by have := ok.w; rw [size_data]; omega)
 ·
  exact args_fine hq ok.a y (List.mem_of_mem_tail hy)
theorem tok_on (x : Tok) : toTok (toS x) = x := by
 obtain ⟨a, b, c⟩ := x
 simp [toS, toTok]
theorem map_on (l : List Tok) : (l.map toS).map toTok = l := by
 rw [List.map_map]
 conv => rhs; rw [← List.map_id l]
 exact List.map_congr_left fun x hx => tok_on x
theorem write_ok {L : List ByteArray} {w : ByteArray} {l : List A} (ok : okL L w l) {t : List Tok} (h : lineT L w l = some t) (k : Nat) (hk : 4000000 ≤ k) : line_Write.f k L w l = some (⟨(writeL t).1.toArray⟩, ((writeL t).2 : Int)) := by
 obtain ⟨q, hf, ht⟩ := tokensL_f L w l ok.n ok.s ok.w ok.a k hk
 unfold line_Write.f
 rw [hf, h]
 obtain rfl := ht t h
 have := write_f 100000 (by decide) (t.map toS) (fun x hx => by
  obtain ⟨y, hy, rfl⟩ := List.mem_map.1 hx
  have := line_fine ok h y hy
  refine ⟨Int.natCast_nonneg _, ?_, by rw [tok_on]; exact this.2⟩
  show (⟨y.t.toArray⟩ : ByteArray).size ≤ 100000
  rw [size_of]
  exact this.1) k (by omega)
 rw [map_on] at this
 simp only [Option.bind_some, Option.isSome_some, if_true]
 rw [this]
 rfl
theorem check_ok {L : List ByteArray} {w : ByteArray} {l : List A} (ok : okL L w l) {t : List Tok} (h : lineT L w l = some t) (k : Nat) (hk : 4000000 ≤ k) : line_Check.f k L w l = some 0 := by
 obtain ⟨q, hf, ht⟩ := tokensL_f L w l ok.n ok.s ok.w ok.a k hk
 unfold line_Check.f
 rw [hf, h]
 rfl
end Go.Proofs.YtbfndlfemhidaaaGreatDoor.LnW
