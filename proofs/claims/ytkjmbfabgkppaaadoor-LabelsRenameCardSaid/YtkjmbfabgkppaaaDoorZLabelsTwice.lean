/- Plain laws of the names of local numbers: they are unlike for unlike numbers and counts, no local numbers, and ask for nothing; renaming twice is renaming once. -/
import Derived.Test.YtkjmbfabgkppaaaDoorZLabels
import Derived.Test.YtkjmbfabgkppaaaDoorPx2
namespace Go.Proofs.YtkjmbfabgkppaaaDoor.Z
open Go.RowKit Go.Proofs.YtkjmbfabgkppaaaDoor.P Go.Proofs.YtkjmbfabgkppaaaDoorW.PrintWords Go.Proofs.YtkjmbfabgkppaaaDoorW.PrintLast
set_option linter.unusedSimpArgs false
set_option linter.unusedVariables false

theorem dec_eq (u : Nat) : Lib.decDigits u = if u < 10 then [UInt8.ofNat (48 + u)] else Lib.decDigits (u / 10) ++ [UInt8.ofNat (48 + u % 10)] := by
  rw [Lib.decDigits]
  split <;> rfl
theorem dec_digs (u : Nat) : ∀ x ∈ Lib.decDigits u, 48 ≤ x.toNat ∧ x.toNat ≤ 57 := by
  induction u using Nat.strongRecOn with
  | _ u ih =>
    rw [dec_eq]
    have hd : ∀ d, d < 10 → 48 ≤ (UInt8.ofNat (48 + d)).toNat ∧ (UInt8.ofNat (48 + d)).toNat ≤ 57 := by decide
    by_cases h : u < 10
    · rw [if_pos h]
      intro x hx
      rw [List.mem_singleton] at hx
      subst hx
      exact hd u h
    · rw [if_neg h]
      intro x hx
      rcases List.mem_append.1 hx with hx | hx
      · exact ih (u / 10) (by omega) x hx
      · rw [List.mem_singleton] at hx
        subst hx
        exact hd (u % 10) (by omega)
theorem dec_inj : ∀ (u v : Nat), Lib.decDigits u = Lib.decDigits v → u = v := by
  have hinj : ∀ a b, a < 10 → b < 10 → UInt8.ofNat (48 + a) = UInt8.ofNat (48 + b) → a = b := by
    intro a b ha hb h
    have := congrArg UInt8.toNat h
    simp only [UInt8.toNat_ofNat'] at this
    omega
  have hne : ∀ u, Lib.decDigits u ≠ [] := by
    intro u
    rw [dec_eq]
    split <;> simp
  intro u
  induction u using Nat.strongRecOn with
  | _ u ih =>
    intro v h
    rw [dec_eq u, dec_eq v] at h
    by_cases hu : u < 10
    · rw [if_pos hu] at h
      by_cases hv : v < 10
      · rw [if_pos hv] at h
        exact hinj u v hu hv (List.cons.inj h).1
      · rw [if_neg hv] at h
        have := congrArg List.length h
        have h2 := List.length_pos_iff.2 (hne (v / 10))
        simp at this
        exact absurd this (hne _)
    · rw [if_neg hu] at h
      by_cases hv : v < 10
      · rw [if_pos hv] at h
        have := congrArg List.length h
        simp at this
        exact absurd this (hne _)
      · rw [if_neg hv] at h
        have h1 := List.append_inj' h rfl
        have h2 := ih (u / 10) (by omega) (v / 10) h1.1
        have h3 := hinj (u % 10) (v % 10) (by omega) (by omega) (List.cons.inj h1.2).1
        omega
theorem dec_ne (u : Nat) : Lib.decDigits u ≠ [] := by
  rw [dec_eq]
  split <;> simp
theorem name_list (s : ByteArray) (n : Nat) : (nameB s (n : Int)).data.toList = s.data.toList ++ 64 :: Lib.decDigits n := by
  unfold nameB itoaB
  rw [Lib.itoa_nonneg]
  simp
theorem split_at {A A' B B' : List UInt8} (hA : 64 ∉ A) (hA' : 64 ∉ A') (h : A ++ 64 :: B = A' ++ 64 :: B') : A = A' ∧ B = B' := by
  induction A generalizing A' with
  | nil =>
    cases A' with
    | nil => exact ⟨rfl, (List.cons.inj h).2⟩
    | cons x A' => exact absurd (by rw [(List.cons.inj h).1]; exact List.mem_cons_self ..) hA'
  | cons x A ih =>
    cases A' with
    | nil => exact absurd (by rw [← (List.cons.inj h).1]; exact List.mem_cons_self ..) hA
    | cons y A' =>
      have h1 := List.cons.inj h
      have h2 := ih (fun e => hA (List.mem_cons_of_mem _ e)) (fun e => hA' (List.mem_cons_of_mem _ e)) h1.2
      rw [h1.1, h2.1]
      exact ⟨rfl, h2.2⟩
theorem local_no64 {s : ByteArray} (h : localB s = true) : 64 ∉ s.data.toList := by
  rw [localB_eq, decide_eq_true_iff] at h
  intro hm
  have := List.all_eq_true.1 h.2.2 64 hm
  revert this
  decide
theorem name_inj {s t : ByteArray} {n m : Nat} (hs : localB s = true) (ht : localB t = true) (h : nameB s (n : Int) = nameB t (m : Int)) : s = t ∧ n = m := by
  have h1 := congrArg (fun z : ByteArray => z.data.toList) h
  simp only [name_list] at h1
  have h2 := split_at (local_no64 hs) (local_no64 ht) h1
  exact ⟨data_inj h2.1, dec_inj _ _ h2.2⟩
theorem name_local (s : ByteArray) (n : Nat) : localB (nameB s (n : Int)) = false := by
  cases h : localB (nameB s (n : Int)) with
  | false => rfl
  | true => exact absurd (by rw [name_list]; exact List.mem_append_right _ (List.mem_cons_self ..)) (local_no64 h)
theorem name_size (s : ByteArray) (n : Nat) (hn : n ≤ 2000) : (nameB s (n : Int)).size ≤ s.size + 30 := by
  have h1 : (nameB s (n : Int)).size = (nameB s (n : Int)).data.toList.length := by rw [Array.length_toList]; rfl
  have h2 := itoaB_size (n : Int) (by omega) (by omega)
  unfold nameB
  rw [ByteArray.size_append, ByteArray.size_append]
  have : (⟨#[64]⟩ : ByteArray).size = 1 := rfl
  omega
/-- A text that asks for nothing. -/
def Still (s : ByteArray) : Prop := ¬ ((cut2 s).2 = true ∧ localB (cut2 s).1 = true)
theorem turn_still {s : ByteArray} (h : Still s) (l : List S31) (i : Nat) : turnB l i s = some s := by
  unfold turnB
  rw [if_neg h]
theorem ask_still {s : ByteArray} (h : Still s) : askB s = (⟨#[]⟩, false, false) := by
  unfold askB
  rw [if_neg h]
theorem name_still (s : ByteArray) (n : Nat) (hs : (nameB s (n : Int)).size ≤ 1000000000000) : Still (nameB s (n : Int)) := by
  intro h
  have hl := name_list s n
  have hz : (nameB s (n : Int)).size = (nameB s (n : Int)).data.toList.length := by rw [Array.length_toList]; rfl
  have h1 : 1 ≤ (nameB s (n : Int)).size := by rw [hz, hl]; simp; omega
  obtain ⟨x, hx, hd⟩ := bt_nat (nameB s (n : Int)) ((nameB s (n : Int)).size - 1) (by omega)
  have hlast : x ∈ Lib.decDigits n := by
    have e : (nameB s (n : Int)).data.toList.getLast? = some x := by
      rw [List.getLast?_eq_getElem?, ← hz, ← List.head?_drop, hd]
      rfl
    rw [hl, List.getLast?_append] at e
    rw [List.getLast?_cons] at e
    cases hg : (Lib.decDigits n).getLast? with
    | none => exact absurd (List.getLast?_eq_none_iff.1 hg) (dec_ne n)
    | some y =>
      rw [hg] at e
      simp at e
      subst e
      exact List.mem_of_getLast? hg
  have hr := dec_digs n x hlast
  have hb : bt (nameB s (n : Int)) (((nameB s (n : Int)).size : Int) - 1) = (x.toNat : Int) := by rw [← hx]; congr 1; omega
  have h98 : cutB (nameB s (n : Int)) 98 = (nameB s (n : Int), false) := by
    rw [cutB_eq _ _ hs, hb, if_neg]
    intro e
    have : (x.toNat : Int) = ((98 : Nat) : Int) := e.2
    omega
  have h102 : cutB (nameB s (n : Int)) 102 = (nameB s (n : Int), false) := by
    rw [cutB_eq _ _ hs, hb, if_neg]
    intro e
    have : (x.toNat : Int) = ((102 : Nat) : Int) := e.2
    omega
  have : cut2 (nameB s (n : Int)) = (nameB s (n : Int), false) := by
    unfold cut2
    rw [h98, h102]
    rfl
  rw [this] at h
  exact absurd h.1 (by show ¬ (false = true); decide)
theorem cnt_nat (l : List S31) (i : Nat) (s : ByteArray) : ∃ n : Nat, cnt l i s = (n : Int) ∧ n ≤ i := by
  have h := cnt_le l i s
  exact ⟨(cnt l i s).toNat, by omega, by omega⟩
theorem cnt_step (l : List S31) (s : ByteArray) (i : Nat) : ∀ d, i + d ≤ l.length → cnt l i s ≤ cnt l (i + d) s := by
  intro d
  induction d with
  | zero => intro h; exact Int.le_refl _
  | succ d ih =>
    intro h
    have h1 := ih (by omega)
    have h2 := cnt_succ l (i + d) (by omega) s
    rw [show i + (d + 1) = i + d + 1 from rfl, h2]
    split
    · exact Int.le_trans h1 (by generalize cnt l (i + d) s = z; omega)
    · exact h1
theorem cnt_total (l : List S31) (s : ByteArray) : ∃ n : Nat, cnt l l.length s = (n : Int) := by
  obtain ⟨n, h, _⟩ := cnt_nat l l.length s
  exact ⟨n, h⟩
/-- What a field is turned into asks for nothing, and is not much longer. -/
theorem turn_done {l : List S31} {i : Nat} {s t : ByteArray} (hi : i ≤ 1024) (hs : s.size ≤ 80000) (h : turnB l i s = some t) : Still t ∧ t.size ≤ 80030 := by
  unfold turnB at h
  by_cases c : (cut2 s).2 = true ∧ localB (cut2 s).1 = true
  · rw [if_pos c] at h
    have hz := (local_nonempty c.2).2
    have key : ∀ n : Nat, n ≤ 2000 → Still (nameB (cut2 s).1 (n : Int)) ∧ (nameB (cut2 s).1 (n : Int)).size ≤ 80030 := by
      intro n hn
      have := name_size (cut2 s).1 n hn
      exact ⟨name_still _ _ (by omega), by omega⟩
    obtain ⟨n, hn, hn2⟩ := cnt_nat l i (cut2 s).1
    rw [hn] at h
    split at h
    · split at h
      · cases h
      · rename_i hc
        have : (n : Int) - 1 = ((n - 1 : Nat) : Int) := by
          have : ¬ ((n : Int) - 1 < 0) := fun e => hc (.inl e)
          omega
        rw [this] at h
        rw [← Option.some.inj h]
        exact key (n - 1) (by omega)
    · split at h
      · cases h
      · rw [← Option.some.inj h]
        exact key n (by omega)
  · rw [if_neg c] at h
    rw [← Option.some.inj h]
    exact ⟨c, by omega⟩
/-- What an item is turned into. -/
theorem one_done {l : List S31} {i : Nat} {y : S31} (hi : i ≤ 1024) (hx : (rd_T31 l (i : Int)).f3.size ≤ 80000 ∧ (rd_T31 l (i : Int)).f4.size ≤ 80000) (h : oneB l i = some y) :
    y.f0 = (rd_T31 l (i : Int)).f0 ∧ y.f1 = (rd_T31 l (i : Int)).f1 ∧ y.f2 = (rd_T31 l (i : Int)).f2 ∧ y.f5 = (rd_T31 l (i : Int)).f5 ∧ y.f6 = (rd_T31 l (i : Int)).f6 ∧
    y.f3.size ≤ 80030 ∧ y.f4.size ≤ 80030 ∧ (y.f0 = 6 → localB y.f3 = false) ∧ (y.f0 = 1 ∨ y.f0 = 3 → Still y.f3) ∧ (y.f0 = 3 → Still y.f4) ∧
    (y.f0 ≠ 6 → y.f0 ≠ 1 → y.f0 ≠ 3 → y.f3 = (rd_T31 l (i : Int)).f3 ∧ y.f4 = (rd_T31 l (i : Int)).f4) ∧
    (y.f0 = 6 → y.f3 ≠ (rd_T31 l (i : Int)).f3 → localB (rd_T31 l (i : Int)).f3 = true ∧ y.f3 = nameB (rd_T31 l (i : Int)).f3 (cnt l i (rd_T31 l (i : Int)).f3)) := by
  unfold oneB at h
  generalize hX : rd_T31 l (i : Int) = x at *
  have ht := tellsB_eq x
  by_cases c : x.f0 = 6 ∧ localB x.f3 = true
  · rw [if_pos c] at ht
    have hz := local_nonempty c.2
    rw [ht, if_pos hz.1] at h
    have hy := Option.some.inj h
    subst hy
    obtain ⟨n, hn, hn2⟩ := cnt_nat l i x.f3
    have hs := name_size x.f3 n (by omega)
    refine ⟨rfl, rfl, rfl, rfl, rfl, ?_, by show x.f4.size ≤ 80030; omega, fun _ => ?_, fun e => ?_, fun e => ?_, fun e => absurd c.1 e, fun _ _ => ⟨c.2, rfl⟩⟩
    · show (nameB x.f3 (cnt l i x.f3)).size ≤ 80030
      rw [hn]
      omega
    · show localB (nameB x.f3 (cnt l i x.f3)) = false
      rw [hn]
      exact name_local _ _
    · have e : x.f0 = 1 ∨ x.f0 = 3 := e
      have := c.1
      omega
    · have e : x.f0 = 3 := e
      have := c.1
      omega
  · rw [if_neg c] at ht
    rw [ht, if_neg (by decide)] at h
    by_cases c1 : x.f0 = 1
    · rw [if_pos c1] at h
      cases h3 : turnB l i x.f3 with
      | none => rw [h3] at h; cases h
      | some s =>
        rw [h3] at h
        have hy := Option.some.inj h
        subst hy
        have hd := turn_done hi hx.1 h3
        refine ⟨rfl, rfl, rfl, rfl, rfl, hd.2, by show x.f4.size ≤ 80030; omega, fun e => ?_, fun _ => hd.1, fun e => ?_, fun _ e => absurd c1 e, fun e => ?_⟩
        · have e : x.f0 = 6 := e
          omega
        · have e : x.f0 = 3 := e
          omega
        · have e : x.f0 = 6 := e
          omega
    · rw [if_neg c1] at h
      by_cases c3 : x.f0 = 3
      · rw [if_pos c3] at h
        cases h3 : turnB l i x.f3 with
        | none => rw [h3] at h; cases h
        | some s =>
          rw [h3] at h
          cases h4 : turnB l i x.f4 with
          | none => rw [Option.bind_some, h4] at h; cases h
          | some t =>
            rw [Option.bind_some, h4] at h
            have hy := Option.some.inj h
            subst hy
            have hd := turn_done hi hx.1 h3
            have he := turn_done hi hx.2 h4
            refine ⟨rfl, rfl, rfl, rfl, rfl, hd.2, he.2, fun e => ?_, fun _ => hd.1, fun _ => he.1, fun _ _ e => absurd c3 e, fun e => ?_⟩
            · have e : x.f0 = 6 := e
              omega
            · have e : x.f0 = 6 := e
              omega
      · rw [if_neg c3] at h
        have hy := Option.some.inj h
        subst hy
        refine ⟨rfl, rfl, rfl, rfl, rfl, by omega, by omega, fun e => ?_, fun e => ?_, fun e => absurd e c3, fun _ _ _ => ⟨rfl, rfl⟩, fun _ e => absurd rfl e⟩
        · cases hl : localB x.f3 with
          | false => rfl
          | true => exact absurd ⟨e, hl⟩ c
        · rcases e with e | e
          · exact absurd e c1
          · exact absurd e c3
theorem one_same (a : List S31) (i : Nat) (h6 : (rd_T31 a (i : Int)).f0 = 6 → localB (rd_T31 a (i : Int)).f3 = false) (h1 : (rd_T31 a (i : Int)).f0 = 1 ∨ (rd_T31 a (i : Int)).f0 = 3 → Still (rd_T31 a (i : Int)).f3) (h3 : (rd_T31 a (i : Int)).f0 = 3 → Still (rd_T31 a (i : Int)).f4) :
    oneB a i = some (rd_T31 a (i : Int)) := by
  unfold oneB
  generalize rd_T31 a (i : Int) = x at *
  have ht : tellsB x = ⟨#[]⟩ := by
    rw [tellsB_eq, if_neg]
    intro e
    rw [h6 e.1] at e
    exact absurd e.2 (by decide)
  rw [ht, if_neg (by decide)]
  by_cases c1 : x.f0 = 1
  · rw [if_pos c1, turn_still (h1 (.inl c1))]
    rfl
  · rw [if_neg c1]
    by_cases c3 : x.f0 = 3
    · rw [if_pos c3, turn_still (h1 (.inr c3)), turn_still (h3 c3)]
      rfl
    · rw [if_neg c3]
theorem renameFrom_same (a : List S31) (h : ∀ j, j < a.length → oneB a j = some (rd_T31 a (j : Int))) : ∀ d i, i + d = a.length → renameFrom a d i (a.take i) = (a, 0, 0) := by
  intro d
  induction d with
  | zero =>
    intro i hi
    simp only [renameFrom]
    rw [List.take_of_length_le (by omega)]
  | succ d ih =>
    intro i hi
    simp only [renameFrom]
    rw [h i (by omega)]
    have : a.take i ++ [rd_T31 a (i : Int)] = a.take (i + 1) := by
      rw [List.take_add_one, List.getElem?_eq_getElem (by omega), rd_get a i (by omega)]
      rfl
    simp only
    rw [this]
    exact ih (i + 1) (by omega)
/-- Renaming twice is renaming once. -/
theorem rename_twice {l a : List S31} (hs : Small l) (hl : l.length ≤ 1024) (ha : a.length = l.length) (hone : ∀ j, j < l.length → oneB l j = some (rd_T31 a (j : Int))) : labels_Rename.f a = some (a, 0, 0) := by
  have hd := fun j (hj : j < l.length) => one_done (by omega) (hs.2 _ (rd_mem l j hj)).2 (hone j hj)
  have hok : a.all okItem = true := by
    rw [List.all_eq_true]
    intro y hy
    obtain ⟨j, hj, rfl⟩ := List.getElem_of_mem hy
    have h1 := hd j (by omega)
    have h2 := hs.2 _ (rd_mem l j (by omega))
    rw [rd_get a j hj] at h1
    unfold okItem
    rw [decide_eq_true_iff, h1.2.1]
    omega
  unfold labels_Rename.f
  rw [if_pos hok]
  unfold renameF
  rw [if_neg (by omega)]
  congr 1
  have := renameFrom_same a (fun j hj => by
    have h1 := hd j (by omega)
    exact one_same a j h1.2.2.2.2.2.2.2.1 h1.2.2.2.2.2.2.2.2.1 h1.2.2.2.2.2.2.2.2.2.1) a.length 0 (by omega)
  rw [List.take_zero] at this
  exact this
/-- No two items tell one local number's name. -/
theorem rename_unlike {l a : List S31} (hs : Small l) (hl : l.length ≤ 1024) (hone : ∀ j, j < l.length → oneB l j = some (rd_T31 a (j : Int))) {p q : Nat} (hpq : p < q) (hq : q < l.length)
    (h6 : (rd_T31 l (p : Int)).f0 = 6) (g6 : (rd_T31 l (q : Int)).f0 = 6) (hne : (rd_T31 l (p : Int)).f3 ≠ (rd_T31 a (p : Int)).f3) (gne : (rd_T31 l (q : Int)).f3 ≠ (rd_T31 a (q : Int)).f3) : (rd_T31 a (p : Int)).f3 ≠ (rd_T31 a (q : Int)).f3 := by
  have h1 := one_done (by omega) (hs.2 _ (rd_mem l p (by omega))).2 (hone p (by omega))
  have h2 := one_done (by omega) (hs.2 _ (rd_mem l q (by omega))).2 (hone q (by omega))
  have k1 := h1.2.2.2.2.2.2.2.2.2.2.2 (h1.1.trans h6) (fun e => hne e.symm)
  have k2 := h2.2.2.2.2.2.2.2.2.2.2.2 (h2.1.trans g6) (fun e => gne e.symm)
  intro e
  rw [k1.2, k2.2] at e
  obtain ⟨n, hn, _⟩ := cnt_nat l p (rd_T31 l (p : Int)).f3
  obtain ⟨m, hm, _⟩ := cnt_nat l q (rd_T31 l (q : Int)).f3
  rw [hn, hm] at e
  have h3 := name_inj k1.1 k2.1 e
  have h4 := cnt_succ l p (by omega) (rd_T31 l (p : Int)).f3
  rw [if_pos ((tells_iff k1.1).2 ⟨h6, rfl⟩)] at h4
  have h5 := cnt_step l (rd_T31 l (p : Int)).f3 (p + 1) (q - (p + 1)) (by omega)
  rw [show p + 1 + (q - (p + 1)) = q by omega, h4, hn, h3.1, hm] at h5
  omega
end Go.Proofs.YtkjmbfabgkppaaaDoor.Z
