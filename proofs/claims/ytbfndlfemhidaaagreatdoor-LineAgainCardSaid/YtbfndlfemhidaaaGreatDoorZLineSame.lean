/- Texts of this seat in one (ZLineSame), what nothing speaks of left out: by pack.py, a program of this session. -/
import Derived.Test.YtbfndlfemhidaaaGreatDoorPx8
import Derived.Test.YtbfndlfemhidaaaGreatDoorPx13
import Derived.Test.YtbfndlfemhidaaaGreatDoorPx14
import Derived.Test.YtbfndlfemhidaaaGreatDoorZLineOnly
/- Lines that are the same: what the printed functions say. -/
namespace Go.Proofs.YtbfndlfemhidaaaGreatDoor.LnW
open Go.RowKit Go.Proofs.YtbfndlfemhidaaaGreatDoor.LexP Go.Proofs.YtbfndlfemhidaaaGreatDoor.P Go.Proofs.YtbfndlfemhidaaaGreatDoor.P.ZT Go.Proofs.YtbfndlfemhidaaaGreatDoorW.PrintWords Go.Proofs.YtbfndlfemhidaaaGreatDoorW.PrintLast Go.Proofs.YtbfndlfemhidaaaGreatDoorW.PrintMore Go.Proofs.YtbfndlfemhidaaaGreatDoor.Lex Go.Proofs.YtbfndlfemhidaaaGreatDoor.Ex Go.Proofs.YtbfndlfemhidaaaGreatDoor.Li
set_option linter.unusedVariables false
set_option linter.unusedSimpArgs false
theorem strs_loop (L : List ByteArray) (hL : L.length ≤ 100000) : ∀ (d i k : Nat), L.length = i + d → d < k → slices_Equal_string_string.l0 k L L (L.length : Int) (i : Int) = some true
 | d, i, 0, _, hk => by omega
 | 0, i, k + 1, hd, hk => by rw [slices_Equal_string_string.l0, if_neg (by omega)]
 | d + 1, i, k + 1, hd, hk => by
  rw [slices_Equal_string_string.l0, if_pos (by omega), if_pos (by omega), if_pos (by omega), if_pos (by omega), if_pos rfl, wrap_succ (by omega)]
  exact strs_loop L hL d (i + 1) k (by omega) (by omega)
theorem args_same (l : List A) (hl : l.length ≤ 100000) : ∀ (d i k : Nat), l.length = i + d → d < k → api_Arg.l0 k l l (l.length : Int) (i : Int) = some true
 | d, i, 0, _, hk => by omega
 | 0, i, k + 1, hd, hk => by rw [api_Arg.l0, if_neg (by omega)]
 | d + 1, i, k + 1, hd, hk => by
  rw [api_Arg.l0, if_pos (by omega), if_pos (by omega), if_pos (by omega), if_pos (by omega), if_neg (by simp), wrap_succ (by omega)]
  exact args_same l hl d (i + 1) k (by omega) (by omega)
theorem same_f (L : List ByteArray) (w : ByteArray) (l : List A) (hL : L.length ≤ 100000) (hl : l.length ≤ 100000) (k : Nat) (hk : 200000 ≤ k) : line_Same.f k L w l L w l = some true := by
 unfold line_Same.f slices_Equal_string_string.f api_Arg.f
 rw [if_pos rfl, if_pos rfl]
 have h1 := strs_loop L hL L.length 0 k (by omega) (by omega)
 have h2 := args_same l hl l.length 0 k (by omega) (by omega)
 rw [show ((0 : Nat) : Int) = 0 from rfl] at h1 h2
 rw [h1, h2]
 simp
theorem read_f (s : ByteArray) (h : s.size ≤ 1000000000) : line_Read.f s = some ((LD.readF s).1.1, (LD.readF s).1.2.1, (LD.readF s).1.2.2, ((LD.readF s).2 : Int)) := if_pos h
theorem alive_f (k : Nat) : quoinlaw17_alive.f k = some true := rfl
theorem lwritten {L : List ByteArray} {w : ByteArray} {l : List A} (ok : okL L w l) {t : List Tok} (h : lineT L w l = some t) (h0 : (writeL t).2 = 0) :
  LD.readF ⟨(writeL t).1.toArray⟩ = ((L, w, l), 0) ∧ (writeL t).1.length ≤ 256 := by
 have hall : t.all mayL = true := by
  unfold writeL at h0
  by_cases c : 64 < t.length
  ·
   rw [if_pos c] at h0; cases h0
  rw [if_neg c] at h0
  by_cases c : t.all mayL = false
  ·
   rw [if_pos c] at h0; cases h0
  ·
   simpa using c
 obtain ⟨s, hs⟩ : ∃ s, writeL t = (s, 0) := ⟨_, Prod.ext rfl h0⟩
 have ht := tokens_write hs (fun y hy => (line_fine ok h y hy).2)
 rw [hs]
 refine ⟨?_, ?_⟩
 ·
  unfold LD.readF
  simp only
  rw [ht, if_pos rfl]
  exact read_back ok h hall
 ·
  by_cases c : 256 < s.length
  ·
   unfold tokensL at ht
   rw [if_pos c] at ht
   exact absurd (congrArg Prod.snd ht) (by simp)
  ·
   exact Nat.le_of_not_lt c
theorem line_len {L : List ByteArray} {w : ByteArray} {l : List A} {t : List Tok} (h : lineT L w l = some t) : l.length ≤ 8 := by
 obtain ⟨p, q, _, hb, _, _⟩ := line_parts h
 unfold wordB at hb
 simp only [Bool.and_eq_true, decide_eq_true_eq] at hb
 exact hb.1
end Go.Proofs.YtbfndlfemhidaaaGreatDoor.LnW
