/- The reference of layer 26 puts the same; for any bytes, type and number, with enough rounds. -/
import Derived.Test.YtoljgjnbkejhaaaZRef26
import Derived.Test.YtoljgjnbkejhaaaPx8
import Derived.Test.YtoljgjnbkejhaaaPx7
namespace Go.Proofs.Ytoljgjnbkejhaaa.Z
open Go.RowKit Go.Proofs.Ytoljgjnbkejhaaa.P Go.Proofs.YtoljgjnbkejhaaaW.PrintWords Go.Proofs.YtoljgjnbkejhaaaW.PrintLast Go.Proofs.YtoljgjnbkejhaaaW.PrintMore
set_option linter.unusedSimpArgs false
set_option linter.unusedVariables false
theorem rows16 : rowsAns 16 = [⟨12, 31, 1⟩, ⟨5, 25, 6⟩, ⟨1, 8, 4⟩, ⟨11, 7, 1⟩] := rfl
theorem rows17 : rowsAns 17 = [⟨20, 31, 1⟩, ⟨1, 21, 10⟩, ⟨11, 20, 1⟩, ⟨12, 12, 8⟩] := rfl
theorem rows26 : rowsAns 26 = [⟨0, 12, 20⟩] := rfl
theorem rows27 : rowsAns 27 = [⟨0, 20, 12⟩] := rfl
theorem rows28 : rowsAns 28 = [⟨5, 25, 7⟩, ⟨0, 7, 5⟩] := rfl
theorem rows44 : rowsAns 44 = [⟨8, 12, 1⟩, ⟨3, 10, 2⟩, ⟨6, 5, 2⟩, ⟨1, 3, 2⟩, ⟨5, 2, 1⟩] := rfl
theorem rows45 : rowsAns 45 = [⟨11, 12, 1⟩, ⟨4, 11, 1⟩, ⟨8, 9, 2⟩, ⟨10, 8, 1⟩, ⟨6, 7, 1⟩, ⟨7, 6, 1⟩, ⟨1, 3, 3⟩, ⟨5, 2, 1⟩] := rfl
theorem rows23 : rowsAns 23 = rowsAns 26 := rfl
theorem rows24 : rowsAns 24 = rowsAns 27 := rfl
theorem rows25 : rowsAns 25 = rowsAns 28 := rfl
theorem put16 (w : Nat) (hw : w < 18446744073709551616) (v : Int) (k : Nat) (hk : 400 ≤ k) : ∃ r : Nat, quoinref26_put.f k (w : Int) 16 v = some (r : Int) ∧ r < 18446744073709551616 ∧ ∀ j, r.testBit j = pick (src (rowsAns 16) j) (u64 v).toNat (w.testBit j) := by
  obtain ⟨r0, a0, b0, c0⟩ := move_eq w hw v 12 31 1 (by omega) (by omega) (by omega) k (by omega) 12 12 31 rfl rfl rfl
  obtain ⟨r1, a1, b1, c1⟩ := move_eq r0 b0 v 5 25 6 (by omega) (by omega) (by omega) k (by omega) 10 5 30 rfl rfl rfl
  obtain ⟨r2, a2, b2, c2⟩ := move_eq r1 b1 v 1 8 4 (by omega) (by omega) (by omega) k (by omega) 4 1 11 rfl rfl rfl
  obtain ⟨r3, a3, b3, c3⟩ := move_eq r2 b2 v 11 7 1 (by omega) (by omega) (by omega) k (by omega) 11 11 7 rfl rfl rfl
  refine ⟨r3, ?_, b3, rows_then c0 (rows_then c1 (rows_then c2 (c3)))⟩
  unfold quoinref26_put.f
  rw [if_pos rfl]
  simp only [a0, a1, a2, a3, Option.bind_some]
theorem put17 (w : Nat) (hw : w < 18446744073709551616) (v : Int) (k : Nat) (hk : 400 ≤ k) : ∃ r : Nat, quoinref26_put.f k (w : Int) 17 v = some (r : Int) ∧ r < 18446744073709551616 ∧ ∀ j, r.testBit j = pick (src (rowsAns 17) j) (u64 v).toNat (w.testBit j) := by
  obtain ⟨r0, a0, b0, c0⟩ := move_eq w hw v 20 31 1 (by omega) (by omega) (by omega) k (by omega) 20 20 31 rfl rfl rfl
  obtain ⟨r1, a1, b1, c1⟩ := move_eq r0 b0 v 1 21 10 (by omega) (by omega) (by omega) k (by omega) 10 1 30 rfl rfl rfl
  obtain ⟨r2, a2, b2, c2⟩ := move_eq r1 b1 v 11 20 1 (by omega) (by omega) (by omega) k (by omega) 11 11 20 rfl rfl rfl
  obtain ⟨r3, a3, b3, c3⟩ := move_eq r2 b2 v 12 12 8 (by omega) (by omega) (by omega) k (by omega) 19 12 19 rfl rfl rfl
  refine ⟨r3, ?_, b3, rows_then c0 (rows_then c1 (rows_then c2 (c3)))⟩
  unfold quoinref26_put.f
  rw [if_neg (by decide), if_pos rfl]
  simp only [a0, a1, a2, a3, Option.bind_some]
theorem put26 (w : Nat) (hw : w < 18446744073709551616) (v : Int) (hp : hasParts v) (k : Nat) (hk : 400 ≤ k) : ∃ r : Nat, quoinref26_put.f k (w : Int) 26 v = some (r : Int) ∧ r < 18446744073709551616 ∧ ∀ j, r.testBit j = pick (src (rowsAns 26) j) (u64 (highOf v)).toNat (w.testBit j) := by
  obtain ⟨k, rfl⟩ : ∃ m, k = m + 1 := ⟨k - 1, by omega⟩
  obtain ⟨r0, a0, b0, c0⟩ := move_eq w hw (highOf v) 0 12 20 (by omega) (by omega) (by omega) k (by omega) 19 0 31 rfl rfl rfl
  refine ⟨r0, ?_, b0, c0⟩
  unfold quoinref26_put.f
  rw [if_neg (by decide), if_neg (by decide), if_pos rfl]
  simp only [quoinref26_put.j0, beq_self_eq_true, if_true, refhigh_eq (reach hp), Option.bind_some, a0]
theorem put23 (w : Nat) (hw : w < 18446744073709551616) (v : Int) (hp : hasParts v) (k : Nat) (hk : 400 ≤ k) : ∃ r : Nat, quoinref26_put.f k (w : Int) 23 v = some (r : Int) ∧ r < 18446744073709551616 ∧ ∀ j, r.testBit j = pick (src (rowsAns 26) j) (u64 (highOf v)).toNat (w.testBit j) := by
  obtain ⟨k, rfl⟩ : ∃ m, k = m + 1 := ⟨k - 1, by omega⟩
  obtain ⟨r0, a0, b0, c0⟩ := move_eq w hw (highOf v) 0 12 20 (by omega) (by omega) (by omega) k (by omega) 19 0 31 rfl rfl rfl
  refine ⟨r0, ?_, b0, c0⟩
  unfold quoinref26_put.f
  rw [if_neg (by decide), if_neg (by decide), if_neg (by decide)]
  simp only [quoinref26_put.j0, beq_self_eq_true, if_true, refhigh_eq (reach hp), Option.bind_some, a0]
theorem lowv {v : Int} (hp : hasParts v) : wrap64 (v - wrap64 (4096 * highOf v)) = v - 4096 * highOf v := by
  have h1 := hp.1
  have h2 := hp.2
  have hb := @low_bounds v
  rw [wrap64_id (n := 4096 * highOf v) (by omega) (by omega), wrap64_id (by omega) (by omega)]
theorem put27 (w : Nat) (hw : w < 18446744073709551616) (v : Int) (hp : hasParts v) (k : Nat) (hk : 400 ≤ k) : ∃ r : Nat, quoinref26_put.f k (w : Int) 27 v = some (r : Int) ∧ r < 18446744073709551616 ∧ ∀ j, r.testBit j = pick (src (rowsAns 27) j) (u64 (v - 4096 * highOf v)).toNat (w.testBit j) := by
  obtain ⟨k, rfl⟩ : ∃ m, k = m + 3 := ⟨k - 3, by omega⟩
  obtain ⟨r0, a0, b0, c0⟩ := move_eq w hw (v - 4096 * highOf v) 0 20 12 (by omega) (by omega) (by omega) (k + 1) (by omega) 11 0 31 rfl rfl rfl
  refine ⟨r0, ?_, b0, c0⟩
  simp [quoinref26_put.f, quoinref26_put.j0, quoinref26_put.j1, quoinref26_put.j2, refhigh_eq (reach hp), lowv hp, a0]
theorem put24 (w : Nat) (hw : w < 18446744073709551616) (v : Int) (hp : hasParts v) (k : Nat) (hk : 400 ≤ k) : ∃ r : Nat, quoinref26_put.f k (w : Int) 24 v = some (r : Int) ∧ r < 18446744073709551616 ∧ ∀ j, r.testBit j = pick (src (rowsAns 27) j) (u64 (v - 4096 * highOf v)).toNat (w.testBit j) := by
  obtain ⟨k, rfl⟩ : ∃ m, k = m + 3 := ⟨k - 3, by omega⟩
  obtain ⟨r0, a0, b0, c0⟩ := move_eq w hw (v - 4096 * highOf v) 0 20 12 (by omega) (by omega) (by omega) (k + 1) (by omega) 11 0 31 rfl rfl rfl
  refine ⟨r0, ?_, b0, c0⟩
  simp [quoinref26_put.f, quoinref26_put.j0, quoinref26_put.j1, quoinref26_put.j2, refhigh_eq (reach hp), lowv hp, a0]
theorem put28 (w : Nat) (hw : w < 18446744073709551616) (v : Int) (hp : hasParts v) (k : Nat) (hk : 400 ≤ k) : ∃ r : Nat, quoinref26_put.f k (w : Int) 28 v = some (r : Int) ∧ r < 18446744073709551616 ∧ ∀ j, r.testBit j = pick (src (rowsAns 28) j) (u64 (v - 4096 * highOf v)).toNat (w.testBit j) := by
  obtain ⟨k, rfl⟩ : ∃ m, k = m + 3 := ⟨k - 3, by omega⟩
  obtain ⟨r0, a0, b0, c0⟩ := move_eq w hw (v - 4096 * highOf v) 5 25 7 (by omega) (by omega) (by omega) k (by omega) 11 5 31 rfl rfl rfl
  obtain ⟨r1, a1, b1, c1⟩ := move_eq r0 b0 (v - 4096 * highOf v) 0 7 5 (by omega) (by omega) (by omega) k (by omega) 4 0 11 rfl rfl rfl
  refine ⟨r1, ?_, b1, rows_then c0 (c1)⟩
  simp [quoinref26_put.f, quoinref26_put.j0, quoinref26_put.j1, quoinref26_put.j2, refhigh_eq (reach hp), lowv hp, a0, a1]
theorem put25 (w : Nat) (hw : w < 18446744073709551616) (v : Int) (hp : hasParts v) (k : Nat) (hk : 400 ≤ k) : ∃ r : Nat, quoinref26_put.f k (w : Int) 25 v = some (r : Int) ∧ r < 18446744073709551616 ∧ ∀ j, r.testBit j = pick (src (rowsAns 28) j) (u64 (v - 4096 * highOf v)).toNat (w.testBit j) := by
  obtain ⟨k, rfl⟩ : ∃ m, k = m + 3 := ⟨k - 3, by omega⟩
  obtain ⟨r0, a0, b0, c0⟩ := move_eq w hw (v - 4096 * highOf v) 5 25 7 (by omega) (by omega) (by omega) k (by omega) 11 5 31 rfl rfl rfl
  obtain ⟨r1, a1, b1, c1⟩ := move_eq r0 b0 (v - 4096 * highOf v) 0 7 5 (by omega) (by omega) (by omega) k (by omega) 4 0 11 rfl rfl rfl
  refine ⟨r1, ?_, b1, rows_then c0 (c1)⟩
  simp [quoinref26_put.f, quoinref26_put.j0, quoinref26_put.j1, quoinref26_put.j2, refhigh_eq (reach hp), lowv hp, a0, a1]
theorem put44 (w : Nat) (hw : w < 18446744073709551616) (v : Int) (k : Nat) (hk : 400 ≤ k) : ∃ r : Nat, quoinref26_put.f k (w : Int) 44 v = some (r : Int) ∧ r < 18446744073709551616 ∧ ∀ j, r.testBit j = pick (src (rowsAns 44) j) (u64 v).toNat (w.testBit j) := by
  obtain ⟨k, rfl⟩ : ∃ m, k = m + 3 := ⟨k - 3, by omega⟩
  obtain ⟨r0, a0, b0, c0⟩ := move_eq w hw v 8 12 1 (by omega) (by omega) (by omega) k (by omega) 8 8 12 rfl rfl rfl
  obtain ⟨r1, a1, b1, c1⟩ := move_eq r0 b0 v 3 10 2 (by omega) (by omega) (by omega) k (by omega) 4 3 11 rfl rfl rfl
  obtain ⟨r2, a2, b2, c2⟩ := move_eq r1 b1 v 6 5 2 (by omega) (by omega) (by omega) k (by omega) 7 6 6 rfl rfl rfl
  obtain ⟨r3, a3, b3, c3⟩ := move_eq r2 b2 v 1 3 2 (by omega) (by omega) (by omega) k (by omega) 2 1 4 rfl rfl rfl
  obtain ⟨r4, a4, b4, c4⟩ := move_eq r3 b3 v 5 2 1 (by omega) (by omega) (by omega) k (by omega) 5 5 2 rfl rfl rfl
  refine ⟨r4, ?_, b4, rows_then c0 (rows_then c1 (rows_then c2 (rows_then c3 (c4))))⟩
  simp [quoinref26_put.f, quoinref26_put.j0, quoinref26_put.j1, quoinref26_put.j2, a0, a1, a2, a3, a4]
theorem put45 (w : Nat) (hw : w < 18446744073709551616) (v : Int) (k : Nat) (hk : 400 ≤ k) : ∃ r : Nat, quoinref26_put.f k (w : Int) 45 v = some (r : Int) ∧ r < 18446744073709551616 ∧ ∀ j, r.testBit j = pick (src (rowsAns 45) j) (u64 v).toNat (w.testBit j) := by
  obtain ⟨k, rfl⟩ : ∃ m, k = m + 3 := ⟨k - 3, by omega⟩
  obtain ⟨r0, a0, b0, c0⟩ := move_eq w hw v 11 12 1 (by omega) (by omega) (by omega) k (by omega) 11 11 12 rfl rfl rfl
  obtain ⟨r1, a1, b1, c1⟩ := move_eq r0 b0 v 4 11 1 (by omega) (by omega) (by omega) k (by omega) 4 4 11 rfl rfl rfl
  obtain ⟨r2, a2, b2, c2⟩ := move_eq r1 b1 v 8 9 2 (by omega) (by omega) (by omega) k (by omega) 9 8 10 rfl rfl rfl
  obtain ⟨r3, a3, b3, c3⟩ := move_eq r2 b2 v 10 8 1 (by omega) (by omega) (by omega) k (by omega) 10 10 8 rfl rfl rfl
  obtain ⟨r4, a4, b4, c4⟩ := move_eq r3 b3 v 6 7 1 (by omega) (by omega) (by omega) k (by omega) 6 6 7 rfl rfl rfl
  obtain ⟨r5, a5, b5, c5⟩ := move_eq r4 b4 v 7 6 1 (by omega) (by omega) (by omega) k (by omega) 7 7 6 rfl rfl rfl
  obtain ⟨r6, a6, b6, c6⟩ := move_eq r5 b5 v 1 3 3 (by omega) (by omega) (by omega) k (by omega) 3 1 5 rfl rfl rfl
  obtain ⟨r7, a7, b7, c7⟩ := move_eq r6 b6 v 5 2 1 (by omega) (by omega) (by omega) k (by omega) 5 5 2 rfl rfl rfl
  refine ⟨r7, ?_, b7, rows_then c0 (rows_then c1 (rows_then c2 (rows_then c3 (rows_then c4 (rows_then c5 (rows_then c6 (c7)))))))⟩
  simp [quoinref26_put.f, quoinref26_put.j0, quoinref26_put.j1, quoinref26_put.j2, a0, a1, a2, a3, a4, a5, a6, a7]
end Go.Proofs.Ytoljgjnbkejhaaa.Z
