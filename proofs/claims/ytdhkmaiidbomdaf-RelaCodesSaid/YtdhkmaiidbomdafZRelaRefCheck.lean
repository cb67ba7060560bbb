/- The reference of layer 11 tells the same of relocations in an object as package rela; for any numbers and sections, with enough rounds. -/
import Derived.Test.YtdhkmaiidbomdafZRelaRef
namespace Go.Proofs.Ytdhkmaiidbomdaf.Z
open Go.RowKit Go.Proofs.Ytdhkmaiidbomdaf.P Go.Proofs.YtdhkmaiidbomdafW.PrintWords Go.Proofs.YtdhkmaiidbomdafW.PrintLast Go.Proofs.YtdhkmaiidbomdafW.PrintMore
set_option linter.unusedSimpArgs false
set_option linter.unusedVariables false
theorem plain_eq {kd : Int} (h : 0 ≤ kd ∧ kd ≤ 255) : quoinref11_Plain.f kd = some (dataKd kd) :=
  u8_all (P := fun x => quoinref11_Plain.f x = some (dataKd x)) (by decide +kernel) h
theorem nought_iff {kd : Int} (h : 0 ≤ kd ∧ kd ≤ 255) : noughtKd kd = decide (kd = 51 ∨ kd = 24 ∨ kd = 25) :=
  u8_all (P := fun x => noughtKd x = decide (x = 51 ∨ x = 24 ∨ x = 25)) (by decide +kernel) h
theorem alone_iff {kd : Int} (h : 0 ≤ kd ∧ kd ≤ 255) : aloneKd kd = decide (kd = 43 ∨ kd = 51) :=
  u8_all (P := fun x => aloneKd x = decide (x = 43 ∨ x = 51)) (by decide +kernel) h
theorem kind_of (s : ByteArray) (hs : s.size ≤ 9223372036854775807) (k : Nat) (hk : s.size + 10 < k) : quoinref09_Of.f k s = some (kindAns s.data.toList).1 := by
  rw [of_eq s hs k hk, kindAns_ref]
  by_cases h : (if nameOk s = true then (kindOf s.data.toList : Int) else 0) = 0
  · rw [if_pos h, h]
  · rw [if_neg h]
def seqOk (sym symbols : Int) : Bool := decide (0 ≤ sym ∧ sym < symbols)
theorem rj3 (symbols : Int) (b : Bool) (sec off kd sym add : Int) (k : Nat) (hk : 1 ≤ k) : quoinref11_May.j3 k symbols b sec off kd sym add = some ((!b || decide (add = 0)) && seqOk sym symbols) := by
  obtain ⟨k, rfl⟩ : ∃ m, k = m + 1 := ⟨k - 1, by omega⟩
  have e : (if sym ≥ 0 then some (decide (sym < symbols)) else some false) = some (seqOk sym symbols) := by
    unfold seqOk
    by_cases h : sym ≥ 0
    · rw [if_pos h]
      congr 1
      exact decide_eq_decide.mpr ⟨fun c => ⟨h, c⟩, fun c => c.2⟩
    · rw [if_neg h, decide_eq_false (fun c => h c.1)]
  simp only [quoinref11_May.j3, e]
  cases b
  · simp
  · by_cases h : add = 0 <;> simp [h]
theorem rj2 (symbols : Int) (sec off kd sym add : Int) (name : ByteArray) (align : Int) (data : List Int) (size : Int) (hkd : 0 ≤ kd ∧ kd ≤ 255) (hoff : 0 ≤ off ∧ off ≤ 9223372036854775807) (hd : data.length ≤ 9223372036854775807) (k : Nat) (hk : 2 ≤ k) :
    quoinref11_May.j2 k symbols false sec off kd sym add name align data size = some ((!(decide (kd = 43)) || decide (add ≤ data.length - off)) && (midOk kd add && lastOk kd sym symbols)) := by
  obtain ⟨k, rfl⟩ : ∃ m, k = m + 1 := ⟨k - 1, by omega⟩
  simp only [quoinref11_May.j2, rj3 _ _ _ _ _ _ _ k (show 1 ≤ k by omega), midOk, lastOk, nought_iff hkd, alone_iff hkd]
  rw [if_neg (by simp), wrap64_id (n := (data.length : Int) - off) (by omega) (by omega)]
  by_cases c51 : kd = 51
  · subst c51
    by_cases h : sym = -1 <;> by_cases h2 : add = 0 <;> simp [h, h2]
  rw [if_neg c51]
  by_cases c43 : kd = 43
  · subst c43
    simp only [if_true]
    by_cases h : sym = -1
    · by_cases h0 : add ≥ 0
      · by_cases h1 : add ≤ 62
        · have et : Int.tmod add 2 = add % 2 := Int.tmod_eq_emod_of_nonneg h0
          rw [if_pos h, if_pos h0, if_pos h1, et]
          by_cases h2 : add % 2 = 0
          · rw [if_pos h2]
            by_cases h3 : add ≤ (data.length : Int) - off
            · have h4 : (data.length : Int) - off ≥ add := h3
              simp [h, h0, h1, h2, h3, h4]
              (try omega)
            · have h4 : ¬ (data.length : Int) - off ≥ add := h3
              simp [h3, h4]
          · rw [if_neg h2]
            simp [h2]
        · rw [if_pos h, if_pos h0, if_neg h1]
          simp [h1]
      · rw [if_pos h, if_neg h0]
        have : ¬ (0 ≤ add) := h0
        simp [this]
    · rw [if_neg h]
      simp [h]
  rw [if_neg c43]
  by_cases c24 : kd = 24
  · subst c24
    by_cases h2 : add = 0 <;> simp [h2, seqOk]
  rw [if_neg c24]
  by_cases c25 : kd = 25
  · subst c25
    by_cases h2 : add = 0 <;> simp [h2, seqOk]
  have e25 : (kd == 25) = false := by rw [beq_eq_false_iff_ne]; exact c25
  rw [e25]
  simp [c51, c43, c24, c25, seqOk]
theorem rj1 (symbols kind : Int) (b : Bool) (sec off kd sym add : Int) (name : ByteArray) (align : Int) (data : List Int) (size : Int) (hkd : 0 ≤ kd ∧ kd ≤ 255) (hoff : b = false → 0 ≤ off ∧ off ≤ 9223372036854775807) (hd : data.length ≤ 9223372036854775807) (k : Nat) (hk : 3 ≤ k) :
    quoinref11_May.j1 k symbols kind b sec off kd sym add name align data size = some (!b && (textOk kd off kind && ((!(decide (kd = 43)) || decide (add ≤ data.length - off)) && (midOk kd add && lastOk kd sym symbols)))) := by
  obtain ⟨k, rfl⟩ : ∃ m, k = m + 2 := ⟨k - 2, by omega⟩
  have htrue : quoinref11_May.j2 (k + 1) symbols true sec off kd sym add name align data size = some false := by simp only [quoinref11_May.j2, if_true]
  simp only [quoinref11_May.j1, plain_eq hkd, Option.bind_some, textOk]
  cases b
  · have ho := hoff rfl
    rw [if_neg (by simp), rj2 _ _ _ _ _ _ _ _ _ _ hkd ho hd (k + 1) (by omega), htrue]
    cases hp : dataKd kd
    · by_cases h1 : kind = 1
      · have et : Int.tmod off 2 = off % 2 := Int.tmod_eq_emod_of_nonneg ho.1
        rw [if_neg (by simp), if_pos h1, et]
        by_cases h2 : off % 2 = 0
        · have : (off % 2 != 0) = false := by rw [bne_eq_false_iff_eq]; exact h2
          rw [this, rj2 _ _ _ _ _ _ _ _ _ _ hkd ho hd (k + 1) (by omega)]
          simp [h1, h2]
        · have : (off % 2 != 0) = true := by rw [bne_iff_ne]; exact h2
          rw [this, htrue]
          simp [h2]
      · rw [if_neg (by simp), if_neg h1]
        simp [h1]
    · simp
  · simp
theorem refrelamay_eq (sec off kd sym add : Int) (l : List S44) (symbols : Int) (hkd : 0 ≤ kd ∧ kd ≤ 255) (hsec : -9223372036854775808 ≤ sec ∧ sec ≤ 9223372036854775807) (hoff : off ≤ 9223372036854775807)
    (hl : ∀ s ∈ l, WfSec s) (M : Nat) (hM : ∀ s ∈ l, s.f0.size ≤ M) (k : Nat) (hk : M + 20 ≤ k) :
    quoinref11_May.f k sec off kd sym add l symbols = some (decide (1 ≤ sec ∧ sec ≤ l.length) && relaMay off kd sym add (rd_T44 l (sec - 1)).f0 (rd_T44 l (sec - 1)).f2.length symbols) := by
  obtain ⟨k, rfl⟩ : ∃ m, k = m + 1 := ⟨k - 1, by omega⟩
  have fv := field_vals hkd
  have htrue : ∀ n : Int, quoinref11_May.j0 (k + 1) l symbols n true sec off kd sym add = some false := fun n => by simp only [quoinref11_May.j0, if_true]
  unfold quoinref11_May.f
  rw [about_eq hkd (by omega)]
  simp only [Option.bind_some, addend_eq, htrue, aboutAns]
  by_cases c0 : (fieldAns kd).2 = 0
  · rw [if_pos c0, if_neg (show ¬ (fieldAns kd).1 < 0 by omega)]
    by_cases c1 : sec < 1
    · rw [if_pos c1, decide_eq_false (by omega)]; rfl
    rw [if_neg c1]
    by_cases c2 : sec > (l.length : Int)
    · rw [if_pos c2, decide_eq_false (by omega)]; rfl
    rw [if_neg c2, decide_eq_true (show 1 ≤ sec ∧ sec ≤ (l.length : Int) by omega), Bool.true_and]
    have hi := rdT_get l (sec - 1).toNat (by omega)
    rw [show (((sec - 1).toNat : Nat) : Int) = sec - 1 by omega] at hi
    have hmem : rd_T44 l (sec - 1) ∈ l := by rw [hi]; exact List.getElem_mem _
    have hw := hl _ hmem
    have hm := hM _ hmem
    unfold relaMay
    by_cases c3 : off < 0
    · rw [if_pos c3, decide_eq_false (by omega)]; rfl
    rw [if_neg c3]
    by_cases c4 : -2147483648 ≤ add ∧ add ≤ 4294967295
    · rw [decide_eq_true c4]
      simp only [Bool.not_true, quoinref11_May.j0, Bool.false_eq_true, if_false]
      rw [wrap64_id (n := sec - 1) (by omega) (by omega), if_pos (by omega), if_pos (by omega), kind_of _ hw.1 k (by omega)]
      simp only [Option.bind_some]
      have J := fun b hb => rj1 symbols (kindAns (rd_T44 l (sec - 1)).f0.data.toList).1 b sec off kd sym add (rd_T44 l (sec - 1)).f0 (rd_T44 l (sec - 1)).f1 (rd_T44 l (sec - 1)).f2 (rd_T44 l (sec - 1)).f3 hkd hb hw.2 k (by omega)
      have hlen := hw.2
      generalize (rd_T44 l (sec - 1)).f2.length = len at *
      generalize (kindAns (rd_T44 l (sec - 1)).f0.data.toList).1 = kind at *
      have hP : ∀ h : ¬ ((fieldAns kd).2 = 0 ∧ kind ≠ 4 ∧ 0 ≤ off ∧ off ≤ (len : Int) - aboutOf kd add ∧ -2147483648 ≤ add ∧ add ≤ 4294967295), decide ((fieldAns kd).2 = 0 ∧ kind ≠ 4 ∧ 0 ≤ off ∧ off ≤ (len : Int) - aboutOf kd add ∧ -2147483648 ≤ add ∧ add ≤ 4294967295) = false := fun h => decide_eq_false h
      by_cases c5 : kind = 4
      · rw [if_pos c5, J _ (by simp), hP (fun h => h.2.1 c5)]; rfl
      rw [if_neg c5]
      have hab : aboutOf kd add = if kd = 43 then (if 0 < add then add else 0) else (fieldAns kd).1 := by
        unfold aboutOf mx
        by_cases c : kd = 43
        · subst c
          have : (fieldAns 43).1 = 0 := by decide +kernel
          simp [this]
        · simp [c]
      by_cases c6 : off > (len : Int)
      · have hn : ¬ ((fieldAns kd).2 = 0 ∧ kind ≠ 4 ∧ 0 ≤ off ∧ off ≤ (len : Int) - aboutOf kd add ∧ -2147483648 ≤ add ∧ add ≤ 4294967295) := by
          intro h
          have h7 := h.2.2.2.1
          have v := fv
          rw [hab] at h7
          split at h7
          · split at h7 <;> omega
          · omega
        rw [if_pos c6, J _ (by simp), hP hn]
        rfl
      · rw [if_neg c6, wrap64_id (by omega) (by omega), J _ (fun _ => ⟨by omega, hoff⟩)]
        congr 1
        by_cases c : kd = 43
        · subst c
          have hf : (fieldAns 43).1 = 0 := by decide +kernel
          rw [hf, decide_eq_false (show ¬ ((len : Int) - off < 0) by omega)]
          unfold midOk
          by_cases h3 : 0 ≤ add ∧ add ≤ 62 ∧ add % 2 = 0
          · by_cases h4 : add ≤ (len : Int) - off
            · have : ((fieldAns 43).2 = 0 ∧ kind ≠ 4 ∧ 0 ≤ off ∧ off ≤ (len : Int) - aboutOf 43 add ∧ -2147483648 ≤ add ∧ add ≤ 4294967295) := by
                refine ⟨c0, c5, by omega, ?_, c4.1, c4.2⟩
                rw [hab, if_pos rfl]
                split <;> omega
              rw [decide_eq_true this]
              simp [h4]
            · have : ¬ ((fieldAns 43).2 = 0 ∧ kind ≠ 4 ∧ 0 ≤ off ∧ off ≤ (len : Int) - aboutOf 43 add ∧ -2147483648 ≤ add ∧ add ≤ 4294967295) := by
                intro h
                have h5 := h.2.2.2.1
                rw [hab, if_pos rfl] at h5
                split at h5 <;> omega
              rw [decide_eq_false this]
              simp [h4]
          · rw [decide_eq_false h3]
            simp
        · have e1 : (!(decide ((len : Int) - off < (fieldAns kd).1))) = decide ((fieldAns kd).2 = 0 ∧ kind ≠ 4 ∧ 0 ≤ off ∧ off ≤ (len : Int) - aboutOf kd add ∧ -2147483648 ≤ add ∧ add ≤ 4294967295) := by
            rw [hab, if_neg c]
            by_cases h4 : (len : Int) - off < (fieldAns kd).1
            · rw [decide_eq_true h4, decide_eq_false (by omega)]; rfl
            · rw [decide_eq_false h4, decide_eq_true ⟨c0, c5, by omega, by omega, c4.1, c4.2⟩]; rfl
          rw [e1, decide_eq_false c]
          simp
    · rw [decide_eq_false c4]
      simp only [Bool.not_false, htrue]
      rw [decide_eq_false (fun h => c4 ⟨h.2.2.2.2.1, h.2.2.2.2.2⟩)]
      rfl
  · rw [if_neg c0, if_pos (by decide)]
    unfold relaMay
    rw [decide_eq_false (show ¬ ((fieldAns kd).2 = 0 ∧ _) from fun h => c0 h.1)]
    simp
theorem refcheck_loop (sec off kd sym add : Int) (l : List S44) (symbols : Int) (hkd : 0 ≤ kd ∧ kd ≤ 255) (hsec : -9223372036854775808 ≤ sec ∧ sec ≤ 9223372036854775807) (hoff : off ≤ 9223372036854775807)
    (hl : ∀ s ∈ l, WfSec s) (M : Nat) (hM : ∀ s ∈ l, s.f0.size ≤ M) (hlen : l.length ≤ 100) (d : Nat) : ∀ (k i : Nat), i + d = l.length → d + M + 40 < k →
    quoinref11_Check.l0 k l symbols (i : Int) sec off kd sym add = some (if secsFrom l i = true then relaLast sec off kd sym add l symbols else 8) := by
  induction d with
  | zero =>
    intro k i hi hk
    obtain ⟨k, rfl⟩ : ∃ m, k = m + 1 := ⟨k - 1, by omega⟩
    simp only [quoinref11_Check.l0]
    rw [if_neg (by omega), secsFrom_end l i (by omega), if_pos rfl, refrelamay_eq _ _ _ _ _ _ _ hkd hsec hoff hl M hM k (by omega)]
    simp only [Option.bind_some]
    unfold relaLast
    by_cases c : 1 ≤ sec ∧ sec ≤ l.length
    · rw [if_pos c, decide_eq_true c, Bool.true_and]
      split <;> rfl
    · rw [if_neg c, decide_eq_false c, Bool.false_and, if_neg (by simp)]
  | succ d ih =>
    intro k i hi hk
    obtain ⟨k, rfl⟩ : ∃ m, k = m + 1 := ⟨k - 1, by omega⟩
    have hi2 := rdT_get l i (by omega)
    have hmem : rd_T44 l (i : Int) ∈ l := by rw [hi2]; exact List.getElem_mem _
    have hw := hl _ hmem
    have hm := hM _ hmem
    simp only [quoinref11_Check.l0]
    rw [if_pos (by omega), if_pos (by omega), refmay_eq _ _ _ _ hw.1 k (by omega), secsFrom_step l i (by omega), wrap64_id (by omega) (by omega)]
    simp only [Option.bind_some]
    by_cases c : sectAns (rd_T44 l (i : Int)).f0 (rd_T44 l (i : Int)).f1 (rd_T44 l (i : Int)).f2 (rd_T44 l (i : Int)).f3 = 0
    · have hc : secOk (rd_T44 l (i : Int)) = true := decide_eq_true c
      rw [decide_eq_true c, if_pos rfl]
      simp only [hc, Bool.true_and]
      exact ih k (i + 1) (by omega) (by omega)
    · have hc : secOk (rd_T44 l (i : Int)) = false := decide_eq_false c
      rw [decide_eq_false c, if_neg (by simp)]
      simp only [hc, Bool.false_and]
      rw [if_neg (by simp)]
theorem refrelacheck_eq (sec off kd sym add : Int) (l : List S44) (symbols : Int) (hkd : 0 ≤ kd ∧ kd ≤ 255) (hsec : -9223372036854775808 ≤ sec ∧ sec ≤ 9223372036854775807) (hoff : off ≤ 9223372036854775807)
    (hl : ∀ s ∈ l, WfSec s) (M : Nat) (hM : ∀ s ∈ l, s.f0.size ≤ M) (k : Nat) (hk : M + 100 ≤ k) : quoinref11_Check.f k sec off kd sym add l symbols = some (relaCheckAns sec off kd sym add l symbols) := by
  obtain ⟨k, rfl⟩ : ∃ m, k = m + 1 := ⟨k - 1, by omega⟩
  unfold quoinref11_Check.f relaCheckAns
  by_cases h : (l.length : Int) > 16
  · rw [if_pos h, if_pos (show l.length > 16 by omega)]
  rw [if_neg h, if_neg (show ¬ l.length > 16 by omega)]
  have L := refcheck_loop sec off kd sym add l symbols hkd hsec hoff hl M hM (by omega) l.length k 0 (by omega) (by omega)
  by_cases h0 : symbols < 0
  · rw [if_pos h0, if_pos (.inl h0)]
    simp only [quoinref11_Check.j0, if_true]
  rw [if_neg h0]
  simp only [quoinref11_Check.j0]
  by_cases h1 : symbols > 64
  · rw [decide_eq_true h1, if_pos rfl, if_pos (.inr h1)]
  · rw [decide_eq_false h1, if_neg (by simp), if_neg (by omega)]
    exact L
end Go.Proofs.Ytdhkmaiidbomdaf.Z
