/- LeBounds: numbers are put just where they have room, and got just where there are as many bytes, and what is refused answers nothing; for any number, size, place, and at most 10,000 bytes. -/
import Derived.Test.YtajmhopefhbeoaaZAlive
import Derived.Test.YtajmhopefhbeoaaPx3
namespace Go.Proofs.Ytajmhopefhbeoaa.Pure
open Go.RowKit Go.Proofs.Ytajmhopefhbeoaa.P Go.Proofs.YtajmhopefhbeoaaW.PrintWords Go.Proofs.YtajmhopefhbeoaaW.PrintLast Go.Proofs.YtajmhopefhbeoaaW.PrintMore Go.Proofs.Ytajmhopefhbeoaa.Z

theorem shl_one (s : Nat) (hs : s ≤ 7) : shl .i64 1 (8 * (s : Int)) = 2 ^ (8 * s) := by
  unfold shl
  have : min (8 * (s : Int)).toNat IntKind.i64.bits = 8 * s := by
    simp only [IntKind.bits]
    omega
  rw [this, i64_w, Int.one_mul]
  have hp : (0 : Int) < 2 ^ (8 * s) := Int.pow_pos (by decide)
  have hle : (2 : Int) ^ (8 * s) ≤ 2 ^ 56 := by exact_mod_cast Nat.pow_le_pow_right (show 0 < 2 by decide) (show 8 * s ≤ 56 by omega)
  exact wrap64_id (by omega) (by simp at hle; omega)
theorem bounds_ok (k : Nat) (n s : Int) (l : List Int) (at_ : Int) (hs : sizeOk s = true) (hl : l.length ≤ 10000) (ha : -9223372036854775808 ≤ at_ ∧ at_ ≤ 9223372036854775807) :
    quoinlaw07_LeBounds.j0 (k + 1) n s l at_ true (putAns n s).1 (putAns n s).2 (getAns l at_ s).1 (getAns l at_ s).2 false = some true := by
  have h4 := (sizeOk_iff s).1 hs
  have hg : (getAns l at_ s).2 = (if 0 ≤ at_ ∧ at_ + s ≤ l.length then 0 else 8) ∧ ((getAns l at_ s).2 = 8 → (getAns l at_ s).1 = 0) := by
    unfold getAns
    rw [if_pos hs]
    split <;> simp
  have hw : wrap64 ((l.length : Int) - s) = (l.length : Int) - s := wrap64_id (by omega) (by omega)
  have hpl : (putAns n s).2 = 0 → ((putAns n s).1.length : Int) = s := putAns_len
  have hpn : (putAns n s).2 = (if putOk n s = true then 0 else 2) ∧ ((putAns n s).2 = 2 → ((putAns n s).1.length : Int) = 0) := by
    unfold putAns
    split <;> simp
  have hok := putOk_iff n s
  have hsh : s ≠ 8 → 0 ≤ wrap64 (8 * s) ∧ shl .i64 1 (wrap64 (8 * s)) = 2 ^ (8 * s.toNat) := by
    intro h8
    obtain ⟨t, rfl⟩ : ∃ t : Nat, s = t := ⟨s.toNat, by omega⟩
    rw [wrap64_id (by omega) (by omega), shl_one t (by omega)]
    exact ⟨by omega, by simp⟩
  generalize (putAns n s).1 = p at *
  generalize (putAns n s).2 = e at *
  generalize (getAns l at_ s).1 = x at *
  generalize (getAns l at_ s).2 = f at *
  obtain ⟨hg1, hg2⟩ := hg
  obtain ⟨hp1, hp2⟩ := hpn
  simp only [quoinlaw07_LeBounds.j0, Bool.false_eq_true, if_false, if_true, hw]
  have hx : f = 0 ∨ f = 8 := by rw [hg1]; split <;> simp
  have hin : (f = 0) = (0 ≤ at_ ∧ at_ ≤ (l.length : Int) - s) := by
    rw [hg1]
    apply propext
    split
    · exact ⟨fun _ => by omega, fun _ => rfl⟩
    · exact ⟨fun h => absurd h (by decide), fun h => by omega⟩
  have tail : (if at_ ≥ 0 then (if f = 0 then (if at_ ≤ (l.length : Int) - s then (some true) else (some false)) else (if at_ ≤ (l.length : Int) - s then (some false) else (if f = 8 then (some (x == 0)) else (some false)))) else (if f = 0 then (some false) else (if f = 8 then (some (x == 0)) else (some false)))) = some true := by
    rcases hx with rfl | rfl
    · have h := hin.mp rfl
      rw [if_pos h.1, if_pos rfl, if_pos h.2]
    · have h : ¬ (0 ≤ at_ ∧ at_ ≤ (l.length : Int) - s) := fun h => absurd (hin.mpr h) (by decide)
      have h0 : x = 0 := hg2 rfl
      subst h0
      by_cases h1 : at_ ≥ 0
      · rw [if_pos h1, if_neg (by decide), if_neg (by omega), if_pos rfl]
        rfl
      · rw [if_neg h1, if_neg (by decide), if_pos rfl]
        rfl
  simp only [tail]
  by_cases hp : putOk n s = true
  · rw [if_pos hp] at hp1
    subst hp1
    have hl2 := hpl rfl
    by_cases h8 : s = 8
    · rw [if_pos h8, if_pos rfl, if_pos hl2]
    · have h1 := (hok.1 hp).2.resolve_left h8
      obtain ⟨q0, q1⟩ := hsh h8
      rw [if_neg h8, if_pos (show n ≥ 0 from h1.1), if_pos q0, q1, if_pos rfl, if_pos h1.2, if_pos hl2]
  · rw [if_neg hp] at hp1
    subst hp1
    have hl2 := hp2 rfl
    have h8 : s ≠ 8 := fun h => hp (hok.2 ⟨hs, .inl h⟩)
    obtain ⟨q0, q1⟩ := hsh h8
    rw [if_neg h8]
    by_cases h0 : n ≥ 0
    · have h1 : ¬ n < 2 ^ (8 * s.toNat) := fun h => hp (hok.2 ⟨hs, .inr ⟨h0, h⟩⟩)
      rw [if_pos h0, if_pos q0, q1, if_neg (by decide), if_neg h1, if_pos hl2, if_pos rfl]
    · rw [if_neg h0, if_neg (by decide), if_pos hl2, if_pos rfl]
theorem LeBounds : quoinlaw07_LeBounds.Pure := by
  intro n s l at_ w0 w1 m2 y2 f2 w3
  refine ⟨100, ?_⟩
  have ha := wf64 w3
  have b2 := allB_of_wf f2
  unfold quoinlaw07_LeBounds.f
  rw [alive_eq _ (by omega)]
  simp only [Option.bind_some]
  by_cases h2 : (l.length : Int) > 10000
  · rw [if_pos h2]
  · rw [if_neg h2, put_eq _ _ _ (by omega), get_eq _ _ _ _ (by omega) b2 (by omega) ha]
    simp only [Option.bind_some]
    by_cases hs : sizeOk s = true
    · have hj := bounds_ok 99 n s l at_ hs (by omega) ha
      have h4 := (sizeOk_iff s).1 hs
      by_cases h1 : s = 1
      · rw [if_pos h1]; exact hj
      · rw [if_neg h1]
        by_cases h2 : s = 2
        · rw [if_pos h2]; exact hj
        · rw [if_neg h2]
          by_cases h3 : s = 4
          · rw [if_pos h3]; exact hj
          · rw [if_neg h3, show (s != 8) = false by simp; omega]
            exact hj
    · have h4 := mt (sizeOk_iff s).2 hs
      rw [if_neg (by omega), if_neg (by omega), if_neg (by omega), show (s != 8) = true by simp; omega]
      have e1 : putAns n s = ([], 2) := putAns_no (by rw [putOk_iff]; exact fun h => hs h.1)
      have e2 : getAns l at_ s = (0, 2) := by unfold getAns; rw [if_neg hs]
      rw [e1, e2]
      simp [quoinlaw07_LeBounds.j0]
end Go.Proofs.Ytajmhopefhbeoaa.Pure
