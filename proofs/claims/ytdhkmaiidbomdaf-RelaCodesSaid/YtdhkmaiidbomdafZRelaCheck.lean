/- What package rela tells of relocations in an object; for any numbers and sections, with enough rounds. -/
import Derived.Test.YtdhkmaiidbomdafZRela
import Derived.Test.YtdhkmaiidbomdafZSect
import Derived.Test.YtdhkmaiidbomdafPx5
import Derived.Test.YtdhkmaiidbomdafPx6
import Derived.Test.YtdhkmaiidbomdafPx7
namespace Go.Proofs.Ytdhkmaiidbomdaf.Z
open Go.RowKit Go.Proofs.Ytdhkmaiidbomdaf.P Go.Proofs.YtdhkmaiidbomdafW.PrintWords Go.Proofs.YtdhkmaiidbomdafW.PrintLast Go.Proofs.YtdhkmaiidbomdafW.PrintMore
set_option linter.unusedSimpArgs false
set_option linter.unusedVariables false

/-- Is a type one of data; one to which nothing is added; one without a symbol? -/
def dataKd (kd : Int) : Bool := (rela_set_has.f 2190433320966 kd).getD false
def noughtKd (kd : Int) : Bool := (rela_set_has.f 2251799864016896 kd).getD false
def aloneKd (kd : Int) : Bool := (rela_set_has.f 2260595906707456 kd).getD false
theorem data_eq {kd : Int} (h : 0 ≤ kd ∧ kd ≤ 255) : rela_set_has.f 2190433320966 kd = some (dataKd kd) :=
  u8_all (P := fun x => rela_set_has.f 2190433320966 x = some (dataKd x)) (by decide +kernel) h
theorem nought_eq {kd : Int} (h : 0 ≤ kd ∧ kd ≤ 255) : rela_set_has.f 2251799864016896 kd = some (noughtKd kd) :=
  u8_all (P := fun x => rela_set_has.f 2251799864016896 x = some (noughtKd x)) (by decide +kernel) h
theorem alone_eq {kd : Int} (h : 0 ≤ kd ∧ kd ≤ 255) : rela_set_has.f 2260595906707456 kd = some (aloneKd kd) :=
  u8_all (P := fun x => rela_set_has.f 2260595906707456 x = some (aloneKd x)) (by decide +kernel) h
theorem and64 {x : Int} (h0 : 0 ≤ x) (h1 : x ≤ 9223372036854775807) : (Go.bits .and .i64 x 1 == 1) = decide (x % 2 = 1) := by
  have h := bits_mask .i64 63 (by decide) (fun n h0 h1 => by rw [show (2 : Int) ^ 63 = 9223372036854775808 by decide] at h1; rw [IntKind.wrap_i64]; omega) 1 (by decide) x h0 (by rw [show (2 : Int) ^ 63 = 9223372036854775808 by decide]; omega)
  have e : ((2 : Int) ^ 1 - 1) = 1 := by decide
  rw [e] at h
  rw [h, show (2 : Int) ^ 1 = 2 by decide]
  by_cases c : x % 2 = 1
  · rw [c]; decide
  · rw [decide_eq_false c, beq_eq_false_iff_ne]
    exact c
def lastOk (kd sym symbols : Int) : Bool := if aloneKd kd = true then decide (sym = -1) else decide (0 ≤ sym ∧ sym < symbols)
def midOk (kd add : Int) : Bool := (!(noughtKd kd) || decide (add = 0)) && (!(decide (kd = 43)) || decide (0 ≤ add ∧ add ≤ 62 ∧ add % 2 = 0))
def textOk (kd off kind : Int) : Bool := dataKd kd || (decide (kind = 1 ∧ off % 2 = 0))
theorem may_j3 (symbols : Int) (b : Bool) (sec off kd sym add : Int) (hkd : 0 ≤ kd ∧ kd ≤ 255) (k : Nat) (hk : 1 ≤ k) :
    rela_may.j3 k symbols b sec off kd sym add = some (!b && lastOk kd sym symbols) := by
  obtain ⟨k, rfl⟩ : ∃ m, k = m + 1 := ⟨k - 1, by omega⟩
  simp only [rela_may.j3, alone_eq hkd, Option.bind_some, lastOk]
  cases b
  · cases aloneKd kd
    · by_cases h : sym ≥ 0 <;> simp [h] <;> omega
    · by_cases h : sym = -1 <;> simp [h]
  · simp
theorem may_j2 (symbols : Int) (b : Bool) (sec off kd sym add : Int) (hkd : 0 ≤ kd ∧ kd ≤ 255) (k : Nat) (hk : 2 ≤ k) :
    rela_may.j2 k symbols b sec off kd sym add = some (!b && (midOk kd add && lastOk kd sym symbols)) := by
  obtain ⟨k, rfl⟩ : ∃ m, k = m + 1 := ⟨k - 1, by omega⟩
  simp only [rela_may.j2, nought_eq hkd, Option.bind_some, midOk, may_j3 _ _ _ _ _ _ _ hkd k (by omega)]
  cases b
  · rw [if_neg (by simp)]
    by_cases h43 : kd = 43
    · simp only [if_pos h43]
      by_cases a0 : add < 0
      · simp only [if_pos a0]
        rw [decide_eq_false (show ¬ (0 ≤ add ∧ add ≤ 62 ∧ add % 2 = 0) by omega)]
        cases noughtKd kd <;> by_cases z : add = 0 <;> simp [h43, z]
      · by_cases a1 : add > 62
        · simp only [if_neg a0, if_pos a1]
          rw [decide_eq_false (show ¬ (0 ≤ add ∧ add ≤ 62 ∧ add % 2 = 0) by omega)]
          cases noughtKd kd <;> by_cases z : add = 0 <;> simp [h43, z]
        · simp only [if_neg a0, if_neg a1]
          rw [and64 (by omega) (by omega)]
          have e : (!(decide (add % 2 = 1))) = decide (0 ≤ add ∧ add ≤ 62 ∧ add % 2 = 0) := by
            by_cases c : add % 2 = 1
            · rw [decide_eq_true c, decide_eq_false (by omega)]; rfl
            · rw [decide_eq_false c, decide_eq_true (by omega)]; rfl
          rw [e, decide_eq_true h43]
          cases noughtKd kd
          · simp
          · by_cases z : add = 0 <;> simp [z]
    · simp only [if_neg h43]
      rw [decide_eq_false h43]
      cases noughtKd kd
      · simp
      · by_cases z : add = 0 <;> simp [z]
  · simp
theorem may_j1 (symbols kind : Int) (b : Bool) (sec off kd sym add : Int) (hkd : 0 ≤ kd ∧ kd ≤ 255) (hoff : b = false → 0 ≤ off ∧ off ≤ 9223372036854775807) (k : Nat) (hk : 3 ≤ k) :
    rela_may.j1 k symbols kind b sec off kd sym add = some (!b && (textOk kd off kind && (midOk kd add && lastOk kd sym symbols))) := by
  obtain ⟨k, rfl⟩ : ∃ m, k = m + 1 := ⟨k - 1, by omega⟩
  simp only [rela_may.j1, data_eq hkd, Option.bind_some, textOk, may_j2 _ _ _ _ _ _ _ hkd k (by omega)]
  cases b
  · have ho := hoff rfl
    rw [if_neg (by simp), and64 ho.1 ho.2]
    cases dataKd kd
    · by_cases h1 : kind = 1
      · have e : (!(decide (off % 2 = 1))) = decide (off % 2 = 0) := by
          by_cases c : off % 2 = 1
          · rw [decide_eq_true c, decide_eq_false (by omega)]; rfl
          · rw [decide_eq_false c, decide_eq_true (by omega)]; rfl
        simp [h1, e]
      · simp [h1]
    · simp
  · simp
/-- How many bytes a relocation asks for. -/
def aboutOf (kd add : Int) : Int := if kd = 43 then mx (fieldAns kd).1 add else (fieldAns kd).1
/-- May a relocation be, in a section with such a name and so many bytes? -/
def relaMay (off kd sym add : Int) (name : ByteArray) (len : Nat) (symbols : Int) : Bool :=
  decide ((fieldAns kd).2 = 0 ∧ (kindAns name.data.toList).1 ≠ 4 ∧ 0 ≤ off ∧ off ≤ len - aboutOf kd add ∧ -2147483648 ≤ add ∧ add ≤ 4294967295) && (textOk kd off (kindAns name.data.toList).1 && (midOk kd add && lastOk kd sym symbols))
theorem may_j0 (sec off kd sym add : Int) (name : ByteArray) (align : Int) (data : List Int) (size symbols : Int) (hkd : 0 ≤ kd ∧ kd ≤ 255) (hoff : off ≤ 9223372036854775807) (hadd : -9223372036854775808 ≤ add ∧ add ≤ 9223372036854775807) (hd : data.length ≤ 9223372036854775807) (k : Nat) (hk : 4 ≤ k) :
    rela_may.j0 k symbols (aboutOf kd add) (fieldAns kd).2 (kindAns name.data.toList).1 sec off kd sym add name align data size = some (relaMay off kd sym add name data.length symbols) := by
  obtain ⟨k, rfl⟩ : ∃ m, k = m + 1 := ⟨k - 1, by omega⟩
  have hab : 0 ≤ aboutOf kd add ∧ aboutOf kd add ≤ 9223372036854775807 := by
    have v := field_vals hkd
    unfold aboutOf mx
    split
    · split <;> omega
    · omega
  simp only [rela_may.j0, relaMay]
  rw [wrap64_id (n := (data.length : Int) - aboutOf kd add) (by omega) (by omega)]
  have J := fun b hb => may_j1 symbols (kindAns name.data.toList).1 b sec off kd sym add hkd hb k (by omega)
  by_cases c0 : (fieldAns kd).2 = 0
  · rw [if_pos c0]
    by_cases c1 : (kindAns name.data.toList).1 = 4
    · rw [if_pos c1, J _ (by simp), decide_eq_false (fun h => h.2.1 c1)]; rfl
    rw [if_neg c1]
    by_cases c2 : off < 0
    · rw [if_pos c2, J _ (by simp), decide_eq_false (by omega)]; rfl
    rw [if_neg c2]
    by_cases c3 : off > (data.length : Int) - aboutOf kd add
    · rw [if_pos c3, J _ (by simp), decide_eq_false (by omega)]; rfl
    rw [if_neg c3]
    by_cases c4 : add < -2147483648
    · rw [if_pos c4, J _ (by simp), decide_eq_false (by omega)]; rfl
    rw [if_neg c4, J _ (fun _ => ⟨by omega, hoff⟩)]
    congr 2
    by_cases c5 : add > 4294967295
    · rw [decide_eq_true c5, decide_eq_false (by omega)]; rfl
    · rw [decide_eq_false c5, decide_eq_true ⟨c0, c1, by omega, by omega, by omega, by omega⟩]; rfl
  · rw [if_neg c0, J _ (by simp), decide_eq_false (fun h => c0 h.1)]; rfl
theorem may_eq (sec off kd sym add : Int) (name : ByteArray) (align : Int) (data : List Int) (size symbols : Int) (hkd : 0 ≤ kd ∧ kd ≤ 255) (hoff : off ≤ 9223372036854775807) (hadd : -9223372036854775808 ≤ add ∧ add ≤ 9223372036854775807)
    (hn : name.size ≤ 9223372036854775807) (hd : data.length ≤ 9223372036854775807) (k : Nat) (hk : 10 ≤ k) :
    rela_may.f k sec off kd sym add name align data size symbols = some (relaMay off kd sym add name data.length symbols) := by
  unfold rela_may.f
  rw [field_eq hkd (by omega), kind_eq _ hn]
  simp only [Option.bind_some]
  have J := may_j0 sec off kd sym add name align data size symbols hkd hoff hadd hd k (by omega)
  by_cases c : kd = 43
  · rw [if_pos c]
    rw [aboutOf, if_pos c] at J
    exact J
  · rw [if_neg c]
    rw [aboutOf, if_neg c] at J
    exact J
def secOk (s : S44) : Bool := decide (sectAns s.f0 s.f1 s.f2 s.f3 = 0)
def secsFrom (l : List S44) (i : Nat) : Bool := (l.drop i).all secOk
theorem secsFrom_end (l : List S44) (i : Nat) (h : l.length ≤ i) : secsFrom l i = true := by
  unfold secsFrom
  rw [List.drop_eq_nil_of_le h]
  rfl
theorem rdT_get (l : List S44) (i : Nat) (h : i < l.length) : rd_T44 l (i : Int) = l[i] := by
  unfold rd_T44
  rw [Int.toNat_natCast, List.getD_eq_getElem?_getD, List.getElem?_eq_getElem h]
  rfl
theorem secsFrom_step (l : List S44) (i : Nat) (h : i < l.length) : secsFrom l i = (secOk (rd_T44 l (i : Int)) && secsFrom l (i + 1)) := by
  unfold secsFrom
  rw [List.drop_eq_getElem_cons h, List.all_cons, rdT_get l i h]
/-- What the last part of a check answers. -/
def relaLast (sec off kd sym add : Int) (l : List S44) (symbols : Int) : Int :=
  if 1 ≤ sec ∧ sec ≤ l.length then (if relaMay off kd sym add (rd_T44 l (sec - 1)).f0 (rd_T44 l (sec - 1)).f2.length symbols = true then 0 else 8) else 8
def WfSec (s : S44) : Prop := s.f0.size ≤ 9223372036854775807 ∧ s.f2.length ≤ 9223372036854775807
theorem wfSec_rd {l : List S44} (hl : ∀ s ∈ l, WfSec s) (i : Nat) (h : i < l.length) : WfSec (rd_T44 l (i : Int)) := by
  rw [rdT_get l i h]
  exact hl _ (List.getElem_mem h)
theorem relacheck_loop (sec off kd sym add : Int) (l : List S44) (symbols : Int) (hkd : 0 ≤ kd ∧ kd ≤ 255) (hsec : -9223372036854775808 ≤ sec ∧ sec ≤ 9223372036854775807) (hoff : off ≤ 9223372036854775807) (hadd : -9223372036854775808 ≤ add ∧ add ≤ 9223372036854775807)
    (hl : ∀ s ∈ l, WfSec s) (hlen : l.length ≤ 100) (d : Nat) : ∀ (k i : Nat), i + d = l.length → d + 20 < k →
    rela_Check.l0 k l symbols l (l.length : Int) (i : Int) sec off kd sym add = some (if secsFrom l i = true then relaLast sec off kd sym add l symbols else 8) := by
  induction d with
  | zero =>
    intro k i hi hk
    obtain ⟨k, rfl⟩ : ∃ m, k = m + 1 := ⟨k - 1, by omega⟩
    simp only [rela_Check.l0]
    rw [if_neg (by omega), secsFrom_end l i (by omega), if_pos rfl]
    unfold relaLast
    by_cases c1 : sec < 1
    · rw [if_pos c1, if_neg (by omega)]
    rw [if_neg c1]
    by_cases c2 : sec > (l.length : Int)
    · rw [if_pos c2, if_neg (by omega)]
    have hw := wfSec_rd hl (sec - 1).toNat (by omega)
    rw [show (((sec - 1).toNat : Nat) : Int) = sec - 1 by omega] at hw
    rw [if_neg c2, wrap64_id (by omega) (by omega), if_pos (by omega), if_pos (by omega), if_pos (by omega), may_eq _ _ _ _ _ _ _ _ _ _ hkd hoff hadd hw.1 hw.2 k (by omega)]
    simp only [Option.bind_some]
    split <;> rfl
  | succ d ih =>
    intro k i hi hk
    obtain ⟨k, rfl⟩ : ∃ m, k = m + 1 := ⟨k - 1, by omega⟩
    have hw := wfSec_rd hl i (by omega)
    simp only [rela_Check.l0]
    rw [if_pos (by omega), if_pos (by omega), if_pos (by omega), check_eq _ _ _ _ hw.1 k (by omega), secsFrom_step l i (by omega), wrap64_id (by omega) (by omega)]
    simp only [Option.bind_some]
    by_cases c : sectAns (rd_T44 l (i : Int)).f0 (rd_T44 l (i : Int)).f1 (rd_T44 l (i : Int)).f2 (rd_T44 l (i : Int)).f3 = 0
    · have hc : secOk (rd_T44 l (i : Int)) = true := decide_eq_true c
      rw [if_pos c]
      simp only [hc, Bool.true_and]
      exact ih k (i + 1) (by omega) (by omega)
    · have hc : secOk (rd_T44 l (i : Int)) = false := decide_eq_false c
      rw [if_neg c]
      simp only [hc, Bool.false_and]
      rw [if_neg (by simp)]
      rcases sectAns_two (rd_T44 l (i : Int)).f0 (rd_T44 l (i : Int)).f1 (rd_T44 l (i : Int)).f2 (rd_T44 l (i : Int)).f3 with h | h
      · exact absurd h c
      · rw [h]
/-- What is told of a relocation in an object of some sections and so many symbols. -/
def relaCheckAns (sec off kd sym add : Int) (l : List S44) (symbols : Int) : Int :=
  if l.length > 16 then 4 else if symbols < 0 ∨ symbols > 64 then 2 else if secsFrom l 0 = true then relaLast sec off kd sym add l symbols else 8
theorem relacheck_eq (sec off kd sym add : Int) (l : List S44) (symbols : Int) (hkd : 0 ≤ kd ∧ kd ≤ 255) (hsec : -9223372036854775808 ≤ sec ∧ sec ≤ 9223372036854775807) (hoff : off ≤ 9223372036854775807) (hadd : -9223372036854775808 ≤ add ∧ add ≤ 9223372036854775807)
    (hl : ∀ s ∈ l, WfSec s) (k : Nat) (hk : 60 ≤ k) : rela_Check.f k sec off kd sym add l symbols = some (relaCheckAns sec off kd sym add l symbols) := by
  obtain ⟨k, rfl⟩ : ∃ m, k = m + 1 := ⟨k - 1, by omega⟩
  unfold rela_Check.f relaCheckAns
  by_cases h : (l.length : Int) > 16
  · rw [if_pos h, if_pos (show l.length > 16 by omega)]
  rw [if_neg h, if_neg (show ¬ l.length > 16 by omega)]
  have L := relacheck_loop sec off kd sym add l symbols hkd hsec hoff hadd hl (by omega) l.length k 0 (by omega) (by omega)
  by_cases h0 : symbols < 0
  · rw [if_pos h0, if_pos (.inl h0)]
    simp only [rela_Check.j0, if_true]
  rw [if_neg h0]
  simp only [rela_Check.j0]
  by_cases h1 : symbols > 64
  · rw [decide_eq_true h1, if_pos rfl, if_pos (.inr h1)]
  · rw [decide_eq_false h1, if_neg (by simp), if_neg (by omega)]
    exact L
end Go.Proofs.Ytdhkmaiidbomdaf.Z
