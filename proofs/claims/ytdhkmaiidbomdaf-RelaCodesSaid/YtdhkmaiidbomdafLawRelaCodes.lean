-- Written by pext.py, a program of this session, over the kit's print: a function's contract
import Derived.Test.YtdhkmaiidbomdafRows
import Derived.Test.YtdhkmaiidbomdafFacts
import Derived.Test.YtdhkmaiidbomdafPx10
import Derived.Test.YtdhkmaiidbomdafPureRelaCodes
import Derived.Test.YtdhkmaiidbomdafZOpen
import Derived.WalkKit
import Derived.ProofKit
import Derived.OpenShut
import Derived.ShutString
import Derived.ChangeOld
import Derived.Below
import Derived.SizedLaws
import Derived.Test.YtdhkmaiidbomdafWSized
namespace Go.Proofs.Ytdhkmaiidbomdaf.relaCodes
open Go.ChangeShapes Go.WideShapes Go.ChangeAt Go.RowKit Go.Proofs.Ytdhkmaiidbomdaf.Z Go.Proofs.Ytdhkmaiidbomdaf.P Go.Proofs.YtdhkmaiidbomdafW.PrintWords
open Go.ChangeMaps (open_string shut_string)
set_option linter.unusedVariables false
theorem own : ownKnob Try.prog.godebug = none := by kernel_rfl
theorem laidOut : laidOutB Try.prog = true := by kernel_rfl
theorem opens23 : Opens Try.prog k23 23 wfS23 := opens_iso (fun x => ⟨x.1, x.2.1, x.2.2.1, x.2.2.2.1, x.2.2.2.2⟩) (fun _ => rfl) (opens_struct Try.underlying23 (by kernel_rfl) (seg_cons rfl (by kernel_rfl) (opens_int Try.underlying3) (seg_cons rfl (by kernel_rfl) (opens_int Try.underlying3) (seg_cons rfl (by kernel_rfl) (opens_int Try.underlying5) (seg_cons rfl (by kernel_rfl) (opens_int Try.underlying3) (seg_one rfl (by kernel_rfl) (opens_int Try.underlying3)))))))
theorem opens44 : Opens Try.prog k44 44 wfS44 := opens_iso (fun x => ⟨x.1, x.2.1, x.2.2.1, x.2.2.2⟩) (fun _ => rfl) (opens_struct Try.underlying44 (by kernel_rfl) (seg_cons rfl (by kernel_rfl) (opens_string Try.underlying9) (seg_cons rfl (by kernel_rfl) (opens_int Try.underlying3) (seg_cons rfl (by kernel_rfl) (opens_slice Try.underlying25 (by kernel_rfl) (opens_int Try.underlying5)) (seg_one rfl (by kernel_rfl) (opens_int Try.underlying3))))))
set_option maxRecDepth 100000 in
theorem lifted (os : Os) (started : os.Started) (H : Type) (enc : TypeId × Value → H) :
    ReturnsInHanded {} Try.checked os 3 .any (Rows.relaCodesSpec.pre6 enc Try.prog Try.f3 Rows.relaCodesRow.domain false) (Rows.relaCodesSpec.post enc Try.prog Try.f3 false true false false) := by
  refine returnsInHanded_of_change_sized (C := Try.checked) own started (by kernel_rfl) Try.func3
    (ChangeSpec.witness6 (enc := enc) (C := Try.checked) false ⟨#[], #[.agg #[.int .i64 0, .int .i64 0, .int .u8 0, .int .i64 0, .int .i64 0], .slice none 0 0, .int .i64 0, .int .u8 0, .slice none 0 0], []⟩ 8 (by kernel_rfl) (by kernel_rfl) (by kernel_rfl) (by kernel_rfl)) ?_
  intro W base args ds gs before hval0 hW hcnd hsz0 _
  have hsz : (DataW.weightsEach Try.prog (Try.f3.params.toList ++ Rows.relaCodesSpec.plain.varTypes Try.prog) (ds ++ gs)).all (· ≤ reachBytes) = true := hsz0
  have hval : ∀ (j : Nat) t v, Try.f3.params[j]? = some t → args[j]? = some v → Value.okWide Try.prog W .any base t v := hval0
  have hW' := hW
  obtain ⟨p, q, hA0, hV, rfl, hfz, hnd⟩ := hW
  have hA : DataW.TrodAll enc Try.prog W 0 (fun _ => true) true Try.f3.params.toList args.toList ds p := hA0
  rw [Try.params3] at hA hval hsz
  obtain ⟨v0, vs0, d0, ds0, p0, q0, hargs, rfl, rfl, h0, r0⟩ := trodAll_cons hA
  obtain ⟨v1, vs1, d1, ds1, p1, q1, rfl, rfl, rfl, h1, r1⟩ := trodAll_cons r0
  obtain ⟨v2, vs2, d2, ds2, p2, q2, rfl, rfl, rfl, h2, r2⟩ := trodAll_cons r1
  obtain ⟨v3, vs3, d3, ds3, p3, q3, rfl, rfl, rfl, h3, r3⟩ := trodAll_cons r2
  obtain ⟨v4, vs4, d4, ds4, p4, q4, rfl, rfl, rfl, h4, r4⟩ := trodAll_cons r3
  obtain ⟨rfl, rfl, rfl⟩ := trodAll_nil r4
  obtain rfl : args = #[v0, v1, v2, v3, v4] := by cases args; simp_all
  obtain ⟨rfl, rfl⟩ := trodVars_none hV
  have k0 := h0
  have lt0 : ∀ x ∈ p0, x.block < W.heap.size := by obtain ⟨m, hm⟩ := k0; exact DataW.trod_lt m _ _ _ hm
  obtain ⟨cs0, rfl, hsz0⟩ := okWide_struct Try.underlying23 (hval 0 23 v0 rfl rfl)
  obtain ⟨x0, hx0, hw0⟩ : ∃ x, k23.K W x cs0.toList ∧ wfS23 x := by
    obtain ⟨fuel, hf⟩ := h0
    exact opens23 enc W 0 _ _ fuel _ _ hf
  have hcs0 := k23_open hx0
  obtain rfl : cs0 = #[.int .i64 x0.f0, .int .i64 x0.f1, .int .u8 x0.f2, .int .i64 x0.f3, .int .i64 x0.f4] := by cases cs0; simpa using hcs0
  have k1 := h1
  have lt1 : ∀ x ∈ p1, x.block < W.heap.size := by obtain ⟨m, hm⟩ := k1; exact DataW.trod_lt m _ _ _ hm
  obtain ⟨a1, len1, cap1, rfl⟩ := okWide_slice Try.underlying24 (hval 1 24 v1 rfl rfl)
  obtain ⟨l1, hx1, hw1⟩ : ∃ xs, (Kd.slice 44 k44).K W xs [.slice a1 len1 cap1] ∧ (xs.length ≤ maxLen ∧ ∀ x0_ ∈ xs, wfS44 x0_) := by
    obtain ⟨fuel, hf⟩ := h1
    exact (opens_slice Try.underlying24 (by kernel_rfl) opens44) enc W 0 _ _ fuel _ _ hf
  obtain ⟨A1, c1, e1, hc1, hr1⟩ := hx1
  injection e1 with e1 _
  injection e1 with ea1 el1 ec1
  subst ea1 el1 ec1
  obtain ⟨a2, rfl, rfl, rfl, w2⟩ := open_int Try.underlying3 (hval 2 3 v2 rfl rfl) h2
  obtain ⟨a3, rfl, rfl, rfl, w3⟩ := open_int Try.underlying5 (hval 3 5 v3 rfl rfl) h3
  have k4 := h4
  have lt4 : ∀ x ∈ p4, x.block < W.heap.size := by obtain ⟨m, hm⟩ := k4; exact DataW.trod_lt m _ _ _ hm
  obtain ⟨a4, len4, cap4, rfl⟩ := okWide_slice Try.underlying25 (hval 4 25 v4 rfl rfl)
  obtain ⟨l4, hx4, hw4⟩ : ∃ xs, (Kd.slice 5 (Kd.int .u8)).K W xs [.slice a4 len4 cap4] ∧ (xs.length ≤ maxLen ∧ ∀ x0_ ∈ xs, (Lit.int .u8 x0_).wf = true) := by
    obtain ⟨fuel, hf⟩ := h4
    exact (opens_slice Try.underlying25 (by kernel_rfl) (opens_int Try.underlying5)) enc W 0 _ _ fuel _ _ hf
  obtain ⟨A4, c4, e4, hc4, hr4⟩ := hx4
  injection e4 with e4 _
  injection e4 with ea4 el4 ec4
  subst ea4 el4 ec4
  clear hA0 hval0 hsz0 hsz
  refine (P.quoinlaw11_RelaCodes.walk Pure.RelaCodes x0.f0 x0.f1 x0.f2 x0.f3 x0.f4 a1 cap1 l1 a2 a3 a4 cap4 l4 W hr1 hc1 hr4 hc4 hw0.1 hw0.2.1 hw0.2.2.1 hw0.2.2.2.1 hw0.2.2.2.2 hw1 w2 w3 hw4).mono fun e W' ⟨he, bel⟩ => ?_
  subst he
  exact ⟨_, rfl, _, _, _, [], _, [], hW', trodAll_mk1 (shut_bool Try.underlying4 _), (trodAll_cons_mk (Below.trod laidOut (by kernel_rfl) (of_decide_eq_true (by kernel_rfl)) k0 bel lt0) (trodAll_cons_mk (Below.trod laidOut (by kernel_rfl) (of_decide_eq_true (by kernel_rfl)) k1 bel lt1) (trodAll_cons_mk (shut_int Try.underlying3 w2) (trodAll_cons_mk (shut_int Try.underlying5 w3) (trodAll_cons_mk (Below.trod laidOut (by kernel_rfl) (of_decide_eq_true (by kernel_rfl)) k4 bel lt4) trodAll_mk0))))), rfl, bel.frame _, fun h => by cases h⟩
set_option maxHeartbeats 8000000 in
set_option maxRecDepth 100000 in
theorem closed_ : joinedFacts Try.pinned.checked.prog 3 Try.f3 Rows.relaCodesSpec Rows.relaCodesRow = true :=
  (Facts.and2 (Facts.and2 (Facts.and2 (Facts.and2 (Facts.and2 (Facts.and2 (Facts.and2 (Facts.and2 (Facts.and2 (Facts.and2 (Facts.and2 (Facts.and2 (Facts.and2 (Facts.and2 (Facts.and2 (Facts.and2 (Facts.and2 (Facts.and2 (Facts.and2 (Facts.and2 (Facts.and2 (Facts.and2 (Facts.and2 (Facts.and2 (Facts.and2 (Facts.and2 (Facts.and2 (Facts.and2 (Facts.and2 (Facts.and2 (Facts.and2 (by as_aux_lemma => kernel_rfl) Facts.fact1) Facts.fact2) (by as_aux_lemma => kernel_rfl)) (by as_aux_lemma => kernel_rfl)) (by as_aux_lemma => kernel_rfl)) Facts.fact6) (by as_aux_lemma => kernel_rfl)) Facts.fact8) (by as_aux_lemma => kernel_rfl)) (by as_aux_lemma => kernel_rfl)) (by as_aux_lemma => kernel_rfl)) (by as_aux_lemma => kernel_rfl)) (by as_aux_lemma => kernel_rfl)) (by as_aux_lemma => kernel_rfl)) (by as_aux_lemma => kernel_rfl)) (by as_aux_lemma => kernel_rfl)) (by as_aux_lemma => kernel_rfl)) (by as_aux_lemma => kernel_rfl)) (by as_aux_lemma => kernel_rfl)) (by as_aux_lemma => kernel_rfl)) (by as_aux_lemma => kernel_rfl)) (by as_aux_lemma => kernel_rfl)) (by as_aux_lemma => kernel_rfl)) Facts.fact24) Facts.fact25) (by as_aux_lemma => kernel_rfl)) (by as_aux_lemma => kernel_rfl)) (by as_aux_lemma => kernel_rfl)) (by as_aux_lemma => kernel_rfl)) (by as_aux_lemma => kernel_rfl)) (by as_aux_lemma => kernel_rfl))
theorem over : Rows.relaCodesRow.holds Try.pinned (OpenSpec.ofChange Rows.relaCodesSpec) :=
  OpenClaim.holds_of_wide 3 Try.f3 rfl rfl rfl rfl rfl rfl rfl ⟨rfl, rfl, rfl, rfl, rfl⟩ rfl rfl rfl rfl rfl (by kernel_rfl) Try.func3 closed_
    (of_decide_eq_true (by kernel_rfl)) (by unfold Func.isWrapper; first | (rw [if_pos (by decide +kernel)]; kernel_rfl) | (rw [if_neg (by decide +kernel)]; exact ⟨rfl, rfl⟩))
    (fun os started H enc _ => lifted os started H enc)
theorem proved : Rows.RelaCodesSaid := over
#print axioms proved
end Go.Proofs.Ytdhkmaiidbomdaf.relaCodes
namespace Go.Proofs.Ytdhkmaiidbomdaf
/-- The row, under a short name, for the claim. -/
theorem relaCodes_holds : Rows.RelaCodesSaid := relaCodes.proved
end Go.Proofs.Ytdhkmaiidbomdaf
