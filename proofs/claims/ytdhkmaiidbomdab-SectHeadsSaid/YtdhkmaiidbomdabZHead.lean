/- What package sect writes and reads of heads; for any numbers and bytes, with enough rounds. -/
import Derived.Test.YtdhkmaiidbomdabZLe
import Derived.Test.YtdhkmaiidbomdabPx2
import Derived.Test.YtdhkmaiidbomdabPx4
namespace Go.Proofs.Ytdhkmaiidbomdab.Z
open Go.RowKit Go.Proofs.Ytdhkmaiidbomdab.P Go.Proofs.YtdhkmaiidbomdabW.PrintWords Go.Proofs.YtdhkmaiidbomdabW.PrintLast Go.Proofs.YtdhkmaiidbomdabW.PrintMore
set_option linter.unusedSimpArgs false
set_option linter.unusedVariables false

/-- May a number be written in so many bytes? -/
def partOk (p : Int × Int) : Bool := putOk p.1 p.2 && decide (0 ≤ p.1)
def partBytes (p : Int × Int) : List Int := bytesI (u64 p.1) p.2.toNat
def headOk (ps : List (Int × Int)) : Bool := ps.all partOk
def headBytes (ps : List (Int × Int)) : List Int := ps.flatMap partBytes
theorem partOk_iff (p : Int × Int) : partOk p = true ↔ putOk p.1 p.2 = true ∧ 0 ≤ p.1 := by
  unfold partOk
  rw [Bool.and_eq_true, decide_eq_true_iff]
theorem part_size {p : Int × Int} (h : putOk p.1 p.2 = true) : p.2 = 1 ∨ p.2 = 2 ∨ p.2 = 4 ∨ p.2 = 8 := (sizeOk_iff _).1 ((putOk_iff _ _).1 h).1
theorem head_go (k : Nat) (hk : 10 ≤ k) : ∀ (ps : List (Int × Int)) (acc : List Int), acc.length + 8 * ps.length ≤ 1000 →
    sect_Write.go k ps acc = some (if headOk ps = true then (acc ++ headBytes ps, 0) else ([], 2))
  | [], acc, _ => by simp [sect_Write.go, headOk, headBytes]
  | p :: ps, acc, h => by
    simp only [List.length_cons] at h
    unfold sect_Write.go
    rw [put_eq _ _ _ hk]
    simp only [Option.bind_some]
    by_cases hp : putOk p.1 p.2 = true
    · have hl : p.2.toNat ≤ 8 := by have := part_size hp; omega
      rw [putAns_yes hp]
      dsimp only
      rw [if_pos rfl]
      by_cases h0 : p.1 < 0
      · rw [if_pos h0, if_neg]
        intro hh
        rw [headOk, List.all_cons, Bool.and_eq_true, partOk_iff] at hh
        omega
      · have hq : partOk p = true := (partOk_iff p).2 ⟨hp, by omega⟩
        rw [if_neg h0, if_pos (by rw [bytesI_length]; omega), head_go k hk ps _ (by simp only [List.length_append, bytesI_length]; omega)]
        simp only [headOk, headBytes, List.all_cons, List.flatMap_cons, hq, Bool.true_and, partBytes, List.append_assoc]
    · rw [putAns_no hp]
      dsimp only
      rw [if_neg (by decide), if_neg]
      intro hh
      rw [headOk, List.all_cons, Bool.and_eq_true, partOk_iff] at hh
      exact hp hh.1.1
abbrev headSz : List Int := [4, 4, 8, 8, 8, 8, 4, 4, 8, 8]
abbrev headPs (h0 h1 h2 h3 h4 h5 h6 h7 h8 h9 : Int) : List (Int × Int) := [(h0, 4), (h1, 4), (h2, 8), (h3, 8), (h4, 8), (h5, 8), (h6, 4), (h7, 4), (h8, 8), (h9, 8)]
/-- What is written of a head. -/
def headAns (ps : List (Int × Int)) : List Int × Int := if headOk ps = true then (headBytes ps, 0) else ([], 2)
theorem headwrite_eq (h0 h1 h2 h3 h4 h5 h6 h7 h8 h9 : Int) (k : Nat) (hk : 10 ≤ k) : sect_Write.f k h0 h1 h2 h3 h4 h5 h6 h7 h8 h9 = some (headAns (headPs h0 h1 h2 h3 h4 h5 h6 h7 h8 h9)) := by
  unfold sect_Write.f
  rw [head_go k hk _ _ (by simp)]
  rfl
/-- The numbers that stand one behind the other from a place on. -/
def headNums (l : List Int) : Int → List Int → List Int
  | _, [] => []
  | x, s :: ss => (getAns l x s).1 :: headNums l (x + s) ss
def Sz (ss : List Int) : Prop := ∀ s ∈ ss, s = 4 ∨ s = 8
theorem sz_head : Sz headSz := by
  intro s hs
  simp only [headSz, List.mem_cons, List.not_mem_nil, or_false] at hs
  omega
theorem sz_sum : ∀ (ss : List Int), Sz ss → 0 ≤ ss.sum
  | [], _ => by simp
  | s :: ss, h => by
    have h1 := h s List.mem_cons_self
    have h2 := sz_sum ss (fun x hx => h x (List.mem_cons_of_mem _ hx))
    rw [List.sum_cons]
    omega
def allPos (l : List Int) : Bool := l.all fun n => decide (0 ≤ n)
theorem read_go (k : Nat) (hk : 10 ≤ k) (l : List Int) (hl : AllB l) (hlen : l.length ≤ 1000) : ∀ (ss : List Int) (x : Int) (acc : List Int), 0 ≤ x → Sz ss → x + ss.sum = l.length →
    sect_Read.go k l ss x acc = some (if allPos (headNums l x ss) = true then (acc ++ headNums l x ss, 0) else ([], 8))
  | [], x, acc, _, _, _ => by simp [sect_Read.go, headNums, allPos]
  | s :: ss, x, acc, hx, hs, hsum => by
    have h1 := hs s List.mem_cons_self
    have hss : Sz ss := fun y hy => hs y (List.mem_cons_of_mem _ hy)
    have h2 := sz_sum ss hss
    rw [List.sum_cons] at hsum
    unfold sect_Read.go
    rw [get_eq _ _ _ _ hk hl (by omega) (by omega)]
    simp only [Option.bind_some]
    have hg : (getAns l x s).2 = 0 := by
      unfold getAns
      rw [if_pos ((sizeOk_iff s).2 (by omega)), if_pos (by omega)]
    rw [if_pos hg, wrap64_id (by omega) (by omega)]
    by_cases h0 : (getAns l x s).1 < 0
    · rw [if_pos h0, if_neg]
      simp only [headNums, allPos, List.all_cons, Bool.and_eq_true, decide_eq_true_eq]
      omega
    · rw [if_neg h0, read_go k hk l hl hlen ss (x + s) _ (by omega) hss (by omega)]
      simp only [headNums, allPos, List.all_cons, decide_eq_true (show 0 ≤ (getAns l x s).1 by omega), Bool.true_and, List.append_assoc, List.cons_append, List.nil_append]
abbrev tup (l : List Int) (e : Int) : Int × Int × Int × Int × Int × Int × Int × Int × Int × Int × Int :=
  (l.getD 0 0, l.getD 1 0, l.getD 2 0, l.getD 3 0, l.getD 4 0, l.getD 5 0, l.getD 6 0, l.getD 7 0, l.getD 8 0, l.getD 9 0, e)
/-- What is read: the head's parts, and the error. -/
def headReadAns (l : List Int) : Int × Int × Int × Int × Int × Int × Int × Int × Int × Int × Int :=
  if l.length = 64 then (if allPos (headNums l 0 headSz) = true then tup (headNums l 0 headSz) 0 else tup [] 8) else tup [] 3
theorem headread_eq (l : List Int) (hl : AllB l) (k : Nat) (hk : 10 ≤ k) : sect_Read.f k l = some (headReadAns l) := by
  unfold sect_Read.f headReadAns
  by_cases h : (l.length : Int) = 64
  · rw [if_pos h, if_pos (by omega), read_go k hk l hl (by omega) headSz 0 [] (by omega) sz_head (by rw [h]; decide)]
    by_cases hp : allPos (headNums l 0 headSz) = true
    · rw [if_pos hp, if_pos hp]
      rfl
    · rw [if_neg hp, if_neg hp]
      rfl
  · rw [if_neg h, if_neg (by omega)]
    rfl
/-- What is written is read. -/
theorem nums_bytes : ∀ (ps : List (Int × Int)) (a c : List Int), headOk ps = true → (∀ p ∈ ps, p.1 ≤ 9223372036854775807) →
    headNums (a ++ headBytes ps ++ c) a.length (ps.map Prod.snd) = ps.map Prod.fst
  | [], _, _, _, _ => rfl
  | p :: ps, a, c, h, hb => by
    rw [headOk, List.all_cons, Bool.and_eq_true, partOk_iff] at h
    have hs := part_size h.1.1
    have g := get_put (n := p.1) (s := p.2) a (headBytes ps ++ c) h.1.1 (by omega) (hb p List.mem_cons_self)
    have r := nums_bytes ps (a ++ partBytes p) c h.2 (fun q hq => hb q (List.mem_cons_of_mem _ hq))
    have e : a ++ headBytes (p :: ps) ++ c = a ++ bytesI (u64 p.1) p.2.toNat ++ (headBytes ps ++ c) := by
      simp only [headBytes, List.flatMap_cons, partBytes, List.append_assoc]
    have e2 : a ++ headBytes (p :: ps) ++ c = a ++ partBytes p ++ headBytes ps ++ c := by
      simp only [headBytes, List.flatMap_cons, List.append_assoc]
    have e3 : ((a ++ partBytes p).length : Int) = (a.length : Int) + p.2 := by
      simp only [partBytes, List.length_append, bytesI_length]
      omega
    rw [List.map_cons, List.map_cons, headNums]
    rw [e3, ← e2] at r
    rw [r, e, g]
theorem nums_bytes0 (ps : List (Int × Int)) (h : headOk ps = true) (hb : ∀ p ∈ ps, p.1 ≤ 9223372036854775807) : headNums (headBytes ps) 0 (ps.map Prod.snd) = ps.map Prod.fst := by
  have := nums_bytes ps [] [] h hb
  simp only [List.nil_append, List.append_nil] at this
  exact this
theorem allPos_headOk (ps : List (Int × Int)) (h : headOk ps = true) : allPos (ps.map Prod.fst) = true := by
  unfold allPos
  rw [List.all_map, List.all_eq_true]
  intro p hp
  have := List.all_eq_true.1 h p hp
  rw [partOk_iff] at this
  exact decide_eq_true this.2
theorem headBytes_length : ∀ (ps : List (Int × Int)), Sz (ps.map Prod.snd) → ((headBytes ps).length : Int) = (ps.map Prod.snd).sum
  | [], _ => rfl
  | p :: ps, h => by
    have h1 := h p.2 (by simp)
    have h2 := headBytes_length ps (fun y hy => h y (by rw [List.map_cons]; exact List.mem_cons_of_mem _ hy))
    rw [headBytes] at h2
    rw [headBytes, List.flatMap_cons, List.length_append, List.map_cons, List.sum_cons, ← h2, partBytes, bytesI_length]
    omega
theorem headBytes_allB : ∀ (ps : List (Int × Int)), AllB (headBytes ps)
  | [] => allB_nil
  | p :: ps => by
    rw [headBytes, List.flatMap_cons]
    exact allB_append (bytesI_allB _ _) (headBytes_allB ps)
/-- What is read is written as just these bytes. -/
theorem bytes_nums {l : List Int} (hl : AllB l) : ∀ (ss : List Int) (x : Int), 0 ≤ x → Sz ss → x + ss.sum = l.length →
    headBytes ((headNums l x ss).zip ss) = l.drop x.toNat ∧ (allPos (headNums l x ss) = true → headOk ((headNums l x ss).zip ss) = true)
  | [], x, hx, _, hsum => by
    refine ⟨?_, fun _ => rfl⟩
    rw [List.sum_nil] at hsum
    rw [List.drop_eq_nil_of_le (by omega)]
    rfl
  | s :: ss, x, hx, hs, hsum => by
    have h1 := hs s List.mem_cons_self
    have hss : Sz ss := fun y hy => hs y (List.mem_cons_of_mem _ hy)
    have h2 := sz_sum ss hss
    rw [List.sum_cons] at hsum
    have r := bytes_nums hl ss (x + s) (by omega) hss (by omega)
    have g := put_get (at_ := x) (s := s) hl ((sizeOk_iff s).2 (by omega)) hx (by omega)
    have hok : putOk (getAns l x s).1 s = true := putAns_ok (by rw [g])
    rw [putAns_yes hok] at g
    have g1 : bytesI (u64 (getAns l x s).1) s.toNat = (l.drop x.toNat).take s.toNat := congrArg Prod.fst g
    constructor
    · rw [headNums, List.zip_cons_cons, headBytes, List.flatMap_cons]
      have r1 := r.1
      rw [headBytes] at r1
      rw [r1, partBytes]
      dsimp only
      rw [g1, show (x + s).toNat = x.toNat + s.toNat by omega, ← List.drop_drop, List.take_append_drop]
    · intro hp
      rw [headNums, allPos, List.all_cons, Bool.and_eq_true, decide_eq_true_iff] at hp
      rw [headNums, List.zip_cons_cons, headOk, List.all_cons, Bool.and_eq_true, partOk_iff]
      exact ⟨⟨hok, hp.1⟩, r.2 hp.2⟩
end Go.Proofs.Ytdhkmaiidbomdab.Z
