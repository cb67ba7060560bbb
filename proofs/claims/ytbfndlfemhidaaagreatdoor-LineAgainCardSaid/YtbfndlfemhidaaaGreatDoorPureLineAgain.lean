/- Texts of this seat in one (PureLineAgain), what nothing speaks of left out: by pack.py, a program of this session. -/
import Derived.Test.YtbfndlfemhidaaaGreatDoorPx27
import Derived.Test.YtbfndlfemhidaaaGreatDoorZLineSame
/- What is read may be, and is read again as the same. -/
namespace Go.Proofs.YtbfndlfemhidaaaGreatDoor.Pure
open Go.RowKit Go.Proofs.YtbfndlfemhidaaaGreatDoor.LexP Go.Proofs.YtbfndlfemhidaaaGreatDoor.P Go.Proofs.YtbfndlfemhidaaaGreatDoor.P.ZT Go.Proofs.YtbfndlfemhidaaaGreatDoor.LnW Go.Proofs.YtbfndlfemhidaaaGreatDoorW.PrintWords Go.Proofs.YtbfndlfemhidaaaGreatDoorW.PrintLast Go.Proofs.YtbfndlfemhidaaaGreatDoor.Lex Go.Proofs.YtbfndlfemhidaaaGreatDoor.Ex Go.Proofs.YtbfndlfemhidaaaGreatDoor.Li
set_option linter.unusedSimpArgs false
set_option linter.unusedVariables false
theorem read_none {s : ByteArray} (h : (LD.readF s).2 ≠ 0) : (LD.readF s).1 = ([], (⟨#[]⟩ : ByteArray), []) := by
 unfold LD.readF at h ⊢
 split
 ·
  rename_i h0
  rw [if_pos h0] at h
  unfold LD.readB at h ⊢
  split
  ·
   rename_i e
   rw [e] at h
   exact absurd rfl h
  ·
   rename_i t e
   rw [e] at h
   simp only at h
   split
   ·
    rename_i hp
    rw [if_pos hp] at h
    split
    ·
     rename_i e2
     rw [e2] at h
     exact absurd rfl h
    ·
     rfl
   ·
    rfl
 ·
  rfl
theorem LineAgain : quoinlaw17_LineAgain.Pure := by
 intro a ha
 refine ⟨5000000, ?_⟩
 generalize hK : (5000000 : Nat) = k
 unfold quoinlaw17_LineAgain.f
 rw [alive_f k]
 simp only [Option.bind_some]
 obtain ⟨k, rfl⟩ : ∃ m, k = m + 1 := ⟨k - 1, by omega⟩
 by_cases h : (a.size : Int) > 5000
 ·
  rw [if_pos h]
  rfl
 rw [if_neg h]
 simp only [quoinlaw17_LineAgain.j0, Bool.not_true, Bool.false_eq_true, if_false]
 rw [read_f a (by omega)]
 simp only [Option.bind_some]
 by_cases h0 : (LD.readF a).2 = 0
 ·
  rw [if_pos (by rw [h0]; rfl)]
  obtain ⟨L, w, l, e⟩ : ∃ L w l, LD.readF a = ((L, w, l), 0) := ⟨_, _, _, Prod.ext rfl h0⟩
  rw [e]
  simp only
  have key : okL L w l ∧ ∃ t, lineT L w l = some t ∧ t.all mayL = true := by
   unfold LD.readF at e
   by_cases hz : (tokensL a.data.toList).2 = 0
   ·
    rw [if_pos hz] at e
    obtain ⟨hm, hl⟩ := tokens_may (Prod.ext rfl hz : tokensL a.data.toList = ((tokensL a.data.toList).1, 0))
    exact read_only (fun t ht => (hm t ht).1) hl e
   ·
    rw [if_neg hz] at e
    exact absurd (congrArg Prod.snd e) hz
  obtain ⟨ok, t, ht, hall⟩ := key
  rw [check_ok ok ht k (by omega)]
  simp only [Option.bind_some]
  rw [if_pos trivial, write_ok ok ht k (by omega)]
  simp only [Option.bind_some]
  by_cases hw0 : (writeL t).2 = 0
  ·
   obtain ⟨hr, hlen⟩ := lwritten ok ht hw0
   rw [if_pos (by rw [hw0]; rfl), read_f _ (by rw [size_of]; omega), hr]
   simp only [Option.bind_some]
   have := line_len ht
   have := ok.n
   rw [if_pos (by rfl), same_f L w l (by omega) (by omega) k (by omega)]
   rfl
  ·
   rw [if_neg (by omega)]
   have : (writeL t).2 = 3 ∨ (writeL t).2 = 4 := by
    unfold writeL at hw0 ⊢
    split
    ·
     exact .inr rfl
    split
    ·
     rename_i hf
     rw [hall] at hf
     cases hf
    split
    ·
     exact .inl rfl
    ·
     rename_i c1 c2 c3
     rw [if_neg c1, if_neg c2, if_neg c3] at hw0
     exact absurd rfl hw0
   rcases this with h3 | h4
   ·
    rw [h3]; rfl
   ·
    rw [h4]; rfl
 ·
  rw [if_neg (by omega), read_none h0]
  simp only
  rw [same_f [] ⟨#[]⟩ [] (by simp) (by simp) k (by omega)]
  rfl
end Go.Proofs.YtbfndlfemhidaaaGreatDoor.Pure
