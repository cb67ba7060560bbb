/- Texts of this seat in one (Px1), what nothing speaks of left out: by pack.py, a program of this session. -/
import Derived.Test.YtbfndlfemhidaaaGreatDoorPx0
namespace Go.Proofs.YtbfndlfemhidaaaGreatDoor.P
open Go.RowKit Go.Proofs.YtbfndlfemhidaaaGreatDoor.LexP Go.Proofs.YtbfndlfemhidaaaGreatDoorW.PrintWords Go.Proofs.YtbfndlfemhidaaaGreatDoorW.PrintLast Go.Proofs.YtbfndlfemhidaaaGreatDoorW.PrintMore
attribute [local go_sem] max2_int min2_int max_two min_two max_three min_three max_four min_four   -- for this text's walks alone
set_option linter.unusedVariables false
set_option linter.unusedSimpArgs false

theorem eqA38 (d : Nat) (w : World) (x0 y0 : ByteArray) (x1 y1 : ByteArray) (x2 y2 : Int) (x3 y3 : Int) :
  (Op.equalIn (d + 2) 38 (.agg #[.string x0, .string x1, .int .i64 x2, .int .u8 x3]) (.agg #[.string y0, .string y1, .int .i64 y2, .int .u8 y3])).run Tryz.prog w = .ok (x0.toList == y0.toList && (x1.toList == y1.toList && (x2 == y2 && (x3 == y3)))) w := by
 refine eqA_of Tryz.underlying38 (by kernel_rfl) ?_
 refine eqf_cons (by rfl) (by go_simp; rfl) (by go_simp; rfl) (by go_simp) ?_
 refine eqf_cons (by rfl) (by go_simp; rfl) (by go_simp; rfl) (by go_simp) ?_
 refine eqf_cons (by rfl) (by go_simp; rfl) (by go_simp; rfl) (by go_simp) ?_
 exact eqf_last (by rfl) (by go_simp; rfl) (by go_simp; rfl) (by go_simp)
theorem eqA40 (d : Nat) (w : World) (x0 y0 : Int) (x1 y1 : Int) (x2 y2 : ByteArray) (x3 y3 : ByteArray) (x4 y4 : Int) (x5 y5 : Int) (x6 y6 : ByteArray) :
  (Op.equalIn (d + 3) 40 (.agg #[.int .u8 x0, .int .i64 x1, .string x2, .string x3, .int .i64 x4, .int .u8 x5, .string x6]) (.agg #[.int .u8 y0, .int .i64 y1, .string y2, .string y3, .int .i64 y4, .int .u8 y5, .string y6])).run Tryz.prog w = .ok (x0 == y0 && (x1 == y1 && ((x2.toList == y2.toList && (x3.toList == y3.toList && (x4 == y4 && (x5 == y5)))) && (x6.toList == y6.toList)))) w := by
 refine eqA_of Tryz.underlying40 (by kernel_rfl) ?_
 refine eqf_cons (by rfl) (by go_simp; rfl) (by go_simp; rfl) (by go_simp) ?_
 refine eqf_cons (by rfl) (by go_simp; rfl) (by go_simp; rfl) (by go_simp) ?_
 refine eqf_cons (by rfl) (by go_simp) (by go_simp) (eqA38 (d + 0) w _ _ _ _ _ _ _ _) ?_
 exact eqf_last (by rfl) (by go_simp; rfl) (by go_simp; rfl) (by go_simp)
end Go.Proofs.YtbfndlfemhidaaaGreatDoor.P
