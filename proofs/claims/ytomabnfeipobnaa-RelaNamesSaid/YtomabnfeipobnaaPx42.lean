-- Written by pext.py, a program of this session, over the kit's print: a function's contract
import Derived.Test.YtomabnfeipobnaaPx0
import Derived.Test.YtomabnfeipobnaaPx9
import Derived.Test.YtomabnfeipobnaaPx10
import Derived.Test.YtomabnfeipobnaaPx13
import Derived.Test.YtomabnfeipobnaaPx16
namespace Go.Proofs.Ytomabnfeipobnaa.P
open Go.RowKit Go.Proofs.YtomabnfeipobnaaW.PrintWords Go.Proofs.YtomabnfeipobnaaW.PrintLast Go.Proofs.YtomabnfeipobnaaW.PrintMore
attribute [local go_sem] max2_int min2_int max_two min_two max_three min_three max_four min_four   -- for this text's walks alone
set_option linter.unusedVariables false
set_option linter.unusedSimpArgs false

/-! ### quoinlaw11_RelaNames: function 24 -/
def quoinlaw11_RelaNames.f (k : Nat)  : Option (Bool) := (rela_Field.f k 18).bind fun bt915 => ((rela_Field.f k 51).bind fun bt917 => ((rela_Field.f k 3).bind fun bt919 => ((quoinlaw11_text.f).bind fun t921 => ((rela_Check.f k 1 6 17 0 0 t921 1).bind fun t924 => ((quoinlaw11_text.f).bind fun t925 => ((rela_Check.f k 1 0 2 1 0 t925 1).bind fun t928 => ((rela_Read.f k ([] : List Int)).bind fun bt929 => (if 17 ≤ 5026338869833 then ((rela_Check.f k 0 0 0 0 0 (List.replicate 17 z36) 1).bind fun t939 => ((rela_Check.f k 0 0 0 0 0 ([] : List (S36)) 65).bind fun t940 => ((quoinlaw11_alive.f k).bind fun t941 => (if t941 = true then (if bt915.1 = 8 then (if bt915.2 = 0 then (if bt917.1 = 0 then (if bt917.2 = 0 then (if bt919.2 = 2 then (if t924 = 8 then (if t928 = 8 then (if bt929.2.2.2.2.2 = 3 then (if t939 = 4 then (some (t940 == 2)) else (none)) else (none)) else (none)) else (none)) else (none)) else (none)) else (none)) else (none)) else (none)) else (none))))) else (none)))))))))
theorem quoinlaw11_RelaNames.mono : ∀ k, LeO (quoinlaw11_RelaNames.f k ) (quoinlaw11_RelaNames.f (k + 1) ) := by
 intro  k
 unfold quoinlaw11_RelaNames.f
 repeat' first
   | (with_reducible exact quoinlaw11_alive.mono _)
   | (with_reducible exact rela_Check.mono _ _ _ _ _ _ _ _)
   | (with_reducible exact rela_Field.mono _ _)
   | (with_reducible exact rela_Read.mono _ _)
   | (with_reducible exact LeO.refl _)
   | (with_reducible exact LeO.none _)
   | (with_reducible refine LeO.ite ?_ ?_)
   | (with_reducible refine LeO.bind ?_ (fun _ => ?_))
   | exact quoinlaw11_alive.mono _
   | exact rela_Check.mono _ _ _ _ _ _ _ _
   | exact rela_Field.mono _ _
   | exact rela_Read.mono _ _
   | exact LeO.none _
   | refine LeO.ite ?_ ?_
   | refine LeO.bind ?_ (fun _ => ?_)
set_option maxHeartbeats 8000000 in
set_option maxRecDepth 100000 in
theorem quoinlaw11_RelaNames.calls (k : Nat)  (r : Bool) (w : World) (h : quoinlaw11_RelaNames.f k  = some r) :
  Calls Try.prog 24 #[] w fun e w' => e = .returned (.bool r) ∧ Below w.heap.size w w' := by
 have hu71 := Try.underlying71
 have HB := Aside0.mk (Below.refl w.heap.size w)
 have H : ((rela_Field.f k 18).bind fun bt915 => ((rela_Field.f k 51).bind fun bt917 => ((rela_Field.f k 3).bind fun bt919 => ((quoinlaw11_text.f).bind fun t921 => ((rela_Check.f k 1 6 17 0 0 t921 1).bind fun t924 => ((quoinlaw11_text.f).bind fun t925 => ((rela_Check.f k 1 0 2 1 0 t925 1).bind fun t928 => ((rela_Read.f k ([] : List Int)).bind fun bt929 => (if 17 ≤ 5026338869833 then ((rela_Check.f k 0 0 0 0 0 (List.replicate 17 z36) 1).bind fun t939 => ((rela_Check.f k 0 0 0 0 0 ([] : List (S36)) 65).bind fun t940 => ((quoinlaw11_alive.f k).bind fun t941 => (if t941 = true then (if bt915.1 = 8 then (if bt915.2 = 0 then (if bt917.1 = 0 then (if bt917.2 = 0 then (if bt919.2 = 2 then (if t924 = 8 then (if t928 = 8 then (if bt929.2.2.2.2.2 = 3 then (if t939 = 4 then (some (t940 == 2)) else (none)) else (none)) else (none)) else (none)) else (none)) else (none)) else (none)) else (none)) else (none)) else (none))))) else (none)))))))))) = some r := h
 clear h
 replace H := Option.bind_eq_some_iff.mp H
 obtain ⟨⟨t915, t916⟩, A10, H⟩ := H
 replace H : ((rela_Field.f k 51).bind fun bt917 => ((rela_Field.f k 3).bind fun bt919 => ((quoinlaw11_text.f).bind fun t921 => ((rela_Check.f k 1 6 17 0 0 t921 1).bind fun t924 => ((quoinlaw11_text.f).bind fun t925 => ((rela_Check.f k 1 0 2 1 0 t925 1).bind fun t928 => ((rela_Read.f k ([] : List Int)).bind fun bt929 => (if 17 ≤ 5026338869833 then ((rela_Check.f k 0 0 0 0 0 (List.replicate 17 z36) 1).bind fun t939 => ((rela_Check.f k 0 0 0 0 0 ([] : List (S36)) 65).bind fun t940 => ((quoinlaw11_alive.f k).bind fun t941 => (if t941 = true then (if t915 = 8 then (if t916 = 0 then (if bt917.1 = 0 then (if bt917.2 = 0 then (if bt919.2 = 2 then (if t924 = 8 then (if t928 = 8 then (if bt929.2.2.2.2.2 = 3 then (if t939 = 4 then (some (t940 == 2)) else (none)) else (none)) else (none)) else (none)) else (none)) else (none)) else (none)) else (none)) else (none)) else (none))))) else (none))))))))) = some r := H
 have A1 := Aside0.mk A10
 clear A10
 replace H := Option.bind_eq_some_iff.mp H
 obtain ⟨⟨t917, t918⟩, A20, H⟩ := H
 replace H : ((rela_Field.f k 3).bind fun bt919 => ((quoinlaw11_text.f).bind fun t921 => ((rela_Check.f k 1 6 17 0 0 t921 1).bind fun t924 => ((quoinlaw11_text.f).bind fun t925 => ((rela_Check.f k 1 0 2 1 0 t925 1).bind fun t928 => ((rela_Read.f k ([] : List Int)).bind fun bt929 => (if 17 ≤ 5026338869833 then ((rela_Check.f k 0 0 0 0 0 (List.replicate 17 z36) 1).bind fun t939 => ((rela_Check.f k 0 0 0 0 0 ([] : List (S36)) 65).bind fun t940 => ((quoinlaw11_alive.f k).bind fun t941 => (if t941 = true then (if t915 = 8 then (if t916 = 0 then (if t917 = 0 then (if t918 = 0 then (if bt919.2 = 2 then (if t924 = 8 then (if t928 = 8 then (if bt929.2.2.2.2.2 = 3 then (if t939 = 4 then (some (t940 == 2)) else (none)) else (none)) else (none)) else (none)) else (none)) else (none)) else (none)) else (none)) else (none)) else (none))))) else (none)))))))) = some r := H
 have A2 := Aside0.mk A20
 clear A20
 replace H := Option.bind_eq_some_iff.mp H
 obtain ⟨⟨t919, t920⟩, A30, H⟩ := H
 replace H : ((quoinlaw11_text.f).bind fun t921 => ((rela_Check.f k 1 6 17 0 0 t921 1).bind fun t924 => ((quoinlaw11_text.f).bind fun t925 => ((rela_Check.f k 1 0 2 1 0 t925 1).bind fun t928 => ((rela_Read.f k ([] : List Int)).bind fun bt929 => (if 17 ≤ 5026338869833 then ((rela_Check.f k 0 0 0 0 0 (List.replicate 17 z36) 1).bind fun t939 => ((rela_Check.f k 0 0 0 0 0 ([] : List (S36)) 65).bind fun t940 => ((quoinlaw11_alive.f k).bind fun t941 => (if t941 = true then (if t915 = 8 then (if t916 = 0 then (if t917 = 0 then (if t918 = 0 then (if t920 = 2 then (if t924 = 8 then (if t928 = 8 then (if bt929.2.2.2.2.2 = 3 then (if t939 = 4 then (some (t940 == 2)) else (none)) else (none)) else (none)) else (none)) else (none)) else (none)) else (none)) else (none)) else (none)) else (none))))) else (none))))))) = some r := H
 have A3 := Aside0.mk A30
 clear A30
 replace H := Option.bind_eq_some_iff.mp H
 obtain ⟨t921, A40, H⟩ := H
 replace H : ((rela_Check.f k 1 6 17 0 0 t921 1).bind fun t924 => ((quoinlaw11_text.f).bind fun t925 => ((rela_Check.f k 1 0 2 1 0 t925 1).bind fun t928 => ((rela_Read.f k ([] : List Int)).bind fun bt929 => (if 17 ≤ 5026338869833 then ((rela_Check.f k 0 0 0 0 0 (List.replicate 17 z36) 1).bind fun t939 => ((rela_Check.f k 0 0 0 0 0 ([] : List (S36)) 65).bind fun t940 => ((quoinlaw11_alive.f k).bind fun t941 => (if t941 = true then (if t915 = 8 then (if t916 = 0 then (if t917 = 0 then (if t918 = 0 then (if t920 = 2 then (if t924 = 8 then (if t928 = 8 then (if bt929.2.2.2.2.2 = 3 then (if t939 = 4 then (some (t940 == 2)) else (none)) else (none)) else (none)) else (none)) else (none)) else (none)) else (none)) else (none)) else (none)) else (none))))) else (none)))))) = some r := H
 have A4 := Aside0.mk A40
 clear A40
 replace H := Option.bind_eq_some_iff.mp H
 obtain ⟨t924, A50, H⟩ := H
 replace H : ((quoinlaw11_text.f).bind fun t925 => ((rela_Check.f k 1 0 2 1 0 t925 1).bind fun t928 => ((rela_Read.f k ([] : List Int)).bind fun bt929 => (if 17 ≤ 5026338869833 then ((rela_Check.f k 0 0 0 0 0 (List.replicate 17 z36) 1).bind fun t939 => ((rela_Check.f k 0 0 0 0 0 ([] : List (S36)) 65).bind fun t940 => ((quoinlaw11_alive.f k).bind fun t941 => (if t941 = true then (if t915 = 8 then (if t916 = 0 then (if t917 = 0 then (if t918 = 0 then (if t920 = 2 then (if t924 = 8 then (if t928 = 8 then (if bt929.2.2.2.2.2 = 3 then (if t939 = 4 then (some (t940 == 2)) else (none)) else (none)) else (none)) else (none)) else (none)) else (none)) else (none)) else (none)) else (none)) else (none))))) else (none))))) = some r := H
 have A5 := Aside0.mk A50
 clear A50
 replace H := Option.bind_eq_some_iff.mp H
 obtain ⟨t925, A60, H⟩ := H
 replace H : ((rela_Check.f k 1 0 2 1 0 t925 1).bind fun t928 => ((rela_Read.f k ([] : List Int)).bind fun bt929 => (if 17 ≤ 5026338869833 then ((rela_Check.f k 0 0 0 0 0 (List.replicate 17 z36) 1).bind fun t939 => ((rela_Check.f k 0 0 0 0 0 ([] : List (S36)) 65).bind fun t940 => ((quoinlaw11_alive.f k).bind fun t941 => (if t941 = true then (if t915 = 8 then (if t916 = 0 then (if t917 = 0 then (if t918 = 0 then (if t920 = 2 then (if t924 = 8 then (if t928 = 8 then (if bt929.2.2.2.2.2 = 3 then (if t939 = 4 then (some (t940 == 2)) else (none)) else (none)) else (none)) else (none)) else (none)) else (none)) else (none)) else (none)) else (none)) else (none))))) else (none)))) = some r := H
 have A6 := Aside0.mk A60
 clear A60
 replace H := Option.bind_eq_some_iff.mp H
 obtain ⟨t928, A70, H⟩ := H
 replace H : ((rela_Read.f k ([] : List Int)).bind fun bt929 => (if 17 ≤ 5026338869833 then ((rela_Check.f k 0 0 0 0 0 (List.replicate 17 z36) 1).bind fun t939 => ((rela_Check.f k 0 0 0 0 0 ([] : List (S36)) 65).bind fun t940 => ((quoinlaw11_alive.f k).bind fun t941 => (if t941 = true then (if t915 = 8 then (if t916 = 0 then (if t917 = 0 then (if t918 = 0 then (if t920 = 2 then (if t924 = 8 then (if t928 = 8 then (if bt929.2.2.2.2.2 = 3 then (if t939 = 4 then (some (t940 == 2)) else (none)) else (none)) else (none)) else (none)) else (none)) else (none)) else (none)) else (none)) else (none)) else (none))))) else (none))) = some r := H
 have A7 := Aside0.mk A70
 clear A70
 replace H := Option.bind_eq_some_iff.mp H
 obtain ⟨⟨t929, t930, t931, t932, t933, t934⟩, A80, H⟩ := H
 replace H : (if 17 ≤ 5026338869833 then ((rela_Check.f k 0 0 0 0 0 (List.replicate 17 z36) 1).bind fun t939 => ((rela_Check.f k 0 0 0 0 0 ([] : List (S36)) 65).bind fun t940 => ((quoinlaw11_alive.f k).bind fun t941 => (if t941 = true then (if t915 = 8 then (if t916 = 0 then (if t917 = 0 then (if t918 = 0 then (if t920 = 2 then (if t924 = 8 then (if t928 = 8 then (if t934 = 3 then (if t939 = 4 then (some (t940 == 2)) else (none)) else (none)) else (none)) else (none)) else (none)) else (none)) else (none)) else (none)) else (none)) else (none))))) else (none)) = some r := H
 have A8 := Aside0.mk A80
 clear A80
 by_cases c9 : 17 ≤ 5026338869833
 ·
  rw [if_pos c9] at H
  have c9b0 := eq_true c9
  have c9b1 : decide (17 ≤ 5026338869833) = true := decide_eq_true c9
  clear c9
  obtain ⟨y936, hy936⟩ : ∃ y_ : List (S36), y_ = (List.replicate 17 z36) := ⟨_, rfl⟩
  replace H : ((rela_Check.f k 0 0 0 0 0 y936 1).bind fun t939 => ((rela_Check.f k 0 0 0 0 0 ([] : List (S36)) 65).bind fun t940 => ((quoinlaw11_alive.f k).bind fun t941 => (if t941 = true then (if t915 = 8 then (if t916 = 0 then (if t917 = 0 then (if t918 = 0 then (if t920 = 2 then (if t924 = 8 then (if t928 = 8 then (if t934 = 3 then (if t939 = 4 then (some (t940 == 2)) else (none)) else (none)) else (none)) else (none)) else (none)) else (none)) else (none)) else (none)) else (none)) else (none))))) = some r := by first | (rw [hy936]; with_reducible exact H) | (have H2_ := (Option.bind_some _ _).symm.trans H; rw [hy936]; with_reducible exact H2_) | (have H2_ := (Option.bind_some _ _).symm.trans H; with_reducible exact H2_) | with_reducible exact H | (rw [hy936]; exact H) | exact H
  have Ny936 := Aside0.mk hy936
  clear hy936
  replace H := Option.bind_eq_some_iff.mp H
  obtain ⟨t939, A100, H⟩ := H
  replace H : ((rela_Check.f k 0 0 0 0 0 ([] : List (S36)) 65).bind fun t940 => ((quoinlaw11_alive.f k).bind fun t941 => (if t941 = true then (if t915 = 8 then (if t916 = 0 then (if t917 = 0 then (if t918 = 0 then (if t920 = 2 then (if t924 = 8 then (if t928 = 8 then (if t934 = 3 then (if t939 = 4 then (some (t940 == 2)) else (none)) else (none)) else (none)) else (none)) else (none)) else (none)) else (none)) else (none)) else (none)) else (none)))) = some r := H
  have A10 := Aside0.mk A100
  clear A100
  replace H := Option.bind_eq_some_iff.mp H
  obtain ⟨t940, A110, H⟩ := H
  replace H : ((quoinlaw11_alive.f k).bind fun t941 => (if t941 = true then (if t915 = 8 then (if t916 = 0 then (if t917 = 0 then (if t918 = 0 then (if t920 = 2 then (if t924 = 8 then (if t928 = 8 then (if t934 = 3 then (if t939 = 4 then (some (t940 == 2)) else (none)) else (none)) else (none)) else (none)) else (none)) else (none)) else (none)) else (none)) else (none)) else (none))) = some r := H
  have A11 := Aside0.mk A110
  clear A110
  replace H := Option.bind_eq_some_iff.mp H
  obtain ⟨t941, A120, H⟩ := H
  replace H : (if t941 = true then (if t915 = 8 then (if t916 = 0 then (if t917 = 0 then (if t918 = 0 then (if t920 = 2 then (if t924 = 8 then (if t928 = 8 then (if t934 = 3 then (if t939 = 4 then (some (t940 == 2)) else (none)) else (none)) else (none)) else (none)) else (none)) else (none)) else (none)) else (none)) else (none)) else (none)) = some r := H
  have A12 := Aside0.mk A120
  clear A120
  by_cases c13 : t941 = true
  ·
   subst c13
   have H1 : (if t915 = 8 then (if t916 = 0 then (if t917 = 0 then (if t918 = 0 then (if t920 = 2 then (if t924 = 8 then (if t928 = 8 then (if t934 = 3 then (if t939 = 4 then (some (t940 == 2)) else (none)) else (none)) else (none)) else (none)) else (none)) else (none)) else (none)) else (none)) else (none)) = some r := by rw [if_pos rfl] at H; exact H
   clear H
   have H := H1
   clear H1
   by_cases c14 : t915 = 8
   ·
    rw [if_pos c14] at H
    have c14b0 : (t915 == 8) = true := beq_iff_eq.mpr c14
    have c14b1 : (t915 != 8) = false := bne_eq_false_iff_eq.mpr c14
    clear c14
    by_cases c15 : t916 = 0
    ·
     rw [if_pos c15] at H
     have c15b0 : (t916 == 0) = true := beq_iff_eq.mpr c15
     have c15b1 : (t916 != 0) = false := bne_eq_false_iff_eq.mpr c15
     clear c15
     by_cases c16 : t917 = 0
     ·
      rw [if_pos c16] at H
      have c16b0 : (t917 == 0) = true := beq_iff_eq.mpr c16
      have c16b1 : (t917 != 0) = false := bne_eq_false_iff_eq.mpr c16
      clear c16
      by_cases c17 : t918 = 0
      ·
       rw [if_pos c17] at H
       have c17b0 : (t918 == 0) = true := beq_iff_eq.mpr c17
       have c17b1 : (t918 != 0) = false := bne_eq_false_iff_eq.mpr c17
       clear c17
       by_cases c18 : t920 = 2
       ·
        rw [if_pos c18] at H
        have c18b0 : (t920 == 2) = true := beq_iff_eq.mpr c18
        have c18b1 : (t920 != 2) = false := bne_eq_false_iff_eq.mpr c18
        clear c18
        by_cases c19 : t924 = 8
        ·
         rw [if_pos c19] at H
         have c19b0 : (t924 == 8) = true := beq_iff_eq.mpr c19
         have c19b1 : (t924 != 8) = false := bne_eq_false_iff_eq.mpr c19
         clear c19
         by_cases c20 : t928 = 8
         ·
          rw [if_pos c20] at H
          have c20b0 : (t928 == 8) = true := beq_iff_eq.mpr c20
          have c20b1 : (t928 != 8) = false := bne_eq_false_iff_eq.mpr c20
          clear c20
          by_cases c21 : t934 = 3
          ·
           rw [if_pos c21] at H
           have c21b0 : (t934 == 3) = true := beq_iff_eq.mpr c21
           have c21b1 : (t934 != 3) = false := bne_eq_false_iff_eq.mpr c21
           clear c21
           by_cases c22 : t939 = 4
           ·
            rw [if_pos c22] at H
            have c22b0 : (t939 == 4) = true := beq_iff_eq.mpr c22
            have c22b1 : (t939 != 4) = false := bne_eq_false_iff_eq.mpr c22
            clear c22
            obtain rfl := Option.some.inj H
            go_enter Try.func24, Try.ntmps24
            go_wp2_with (first | ((with_reducible refine gate_callee (f := 55) rfl ?_); refine goesL_ (some 14) rfl rfl Try.func55 (by kernel_rfl) rfl #[.int .u8 18] rfl (by (try simp only [List.map_toArray, List.map_cons, List.map_nil]); first | done | rfl | (simp only [List.length_drop, List.length_take]; rfl)) ?_; (with_reducible refine (rela_Field.calls k 18 t915 t916 _ A1.out).mono ?_); rintro e w' ⟨rfl, ⟨nd, rfl⟩⟩; refine ⟨_, rfl, ?_⟩) | ((with_reducible refine gate_callee (f := 55) rfl ?_); refine goesL_ (some 18) rfl rfl Try.func55 (by kernel_rfl) rfl #[.int .u8 51] rfl (by (try simp only [List.map_toArray, List.map_cons, List.map_nil]); first | done | rfl | (simp only [List.length_drop, List.length_take]; rfl)) ?_; (with_reducible refine (rela_Field.calls k 51 t917 t918 _ A2.out).mono ?_); rintro e w' ⟨rfl, ⟨nd, rfl⟩⟩; refine ⟨_, rfl, ?_⟩) | ((with_reducible refine gate_callee (f := 55) rfl ?_); refine goesL_ (some 22) rfl rfl Try.func55 (by kernel_rfl) rfl #[.int .u8 3] rfl (by (try simp only [List.map_toArray, List.map_cons, List.map_nil]); first | done | rfl | (simp only [List.length_drop, List.length_take]; rfl)) ?_; (with_reducible refine (rela_Field.calls k 3 t919 t920 _ A3.out).mono ?_); rintro e w' ⟨rfl, ⟨nd, rfl⟩⟩; refine ⟨_, rfl, ?_⟩) | ((with_reducible refine gate_callee (f := 61) rfl ?_); refine goesL_ (some 26) rfl rfl Try.func61 (by kernel_rfl) rfl #[] rfl (by (try simp only [List.map_toArray, List.map_cons, List.map_nil]); first | done | rfl | (simp only [List.length_drop, List.length_take]; rfl)) ?_; (with_reducible refine (quoinlaw11_text.calls  t921 _ A4.out).mono ?_); rintro e w23 ⟨v922, rfl, ho0, hb⟩; refine ⟨_, rfl, ?_⟩; have n0_ := Aside0.mk (Kd.N_lower (Kd.N_mono (ok' := fun k_ => True) ho0 (fun k_ hk_ => trivial)) (below_size (by repeat (first | (with_reducible first | exact HB.out | apply below_alloc | apply pw_below_drewN | apply below_drew1) | exact HB.out)))); have n1_ := Aside0.mk (below_step (by repeat (first | (with_reducible first | exact HB.out | apply below_alloc | apply pw_below_drewN | apply below_drew1) | exact HB.out)) hb); clear HB; have HO923 := n0_; have HB := n1_; clear n0_ n1_; (try clear hb); (try clear hb2); (try clear hk); (try clear hi); (try clear ho0); obtain ⟨Ao24, co24, eo24⟩ := Kd.N_slice HO923.out; subst eo24) | ((with_reducible refine gate_callee (f := 54) rfl ?_); refine goesL_ (some 27) rfl rfl Try.func54 (by kernel_rfl) rfl #[.agg #[.int .i64 1, .int .i64 6, .int .u8 17, .int .i64 0, .int .i64 0], .slice Ao24 t921.length co24, .int .i64 1] rfl (by (try simp only [List.map_toArray, List.map_cons, List.map_nil]); first | done | rfl | (simp only [List.length_drop, List.length_take]; rfl)) ?_; (with_reducible refine (rela_Check.calls k 1 6 17 0 0 _ _ t921 1 t924 _ ?side1 ?side2 A5.out).mono ?_); (case side1 => repeat (first | exact (Kd.N_reads' HO923.out).2.2 | (with_reducible refine Kd.C_alloc ?_ _) | (with_reducible refine Kd.C_drewN ?_ _) | (with_reducible refine Kd.C_drew ?_))); (case side2 => exact (Kd.N_reads' HO923.out).2.1); rintro e w25 ⟨rfl, hb⟩; refine ⟨_, rfl, ?_⟩; have n0_ := Aside0.mk (Kd.N_below (by (with_reducible repeat (first | apply Kd.N_alloc | apply Kd.N_drewN | apply Kd.N_drew)); exact HO923.out) hb); have n1_ := Aside0.mk (below_step (by repeat (first | (with_reducible first | exact HB.out | apply below_alloc | apply pw_below_drewN | apply below_drew1) | exact HB.out)) hb); clear HO923; clear HB; have HO923 := n0_; have HB := n1_; clear n0_ n1_; (try clear hb); (try clear hb2); (try clear hk); (try clear hi)) | ((with_reducible refine gate_callee (f := 61) rfl ?_); refine goesL_ (some 29) rfl rfl Try.func61 (by kernel_rfl) rfl #[] rfl (by (try simp only [List.map_toArray, List.map_cons, List.map_nil]); first | done | rfl | (simp only [List.length_drop, List.length_take]; rfl)) ?_; (with_reducible refine (quoinlaw11_text.calls  t925 _ A6.out).mono ?_); rintro e w26 ⟨v926, rfl, ho0, hb⟩; refine ⟨_, rfl, ?_⟩; have n0_ := Aside0.mk (Kd.N_elder' (by (with_reducible repeat (first | apply Kd.N_alloc | apply Kd.N_drewN | apply Kd.N_drew)); exact HO923.out) (Kd.N_base ho0) hb); have n1_ := Aside0.mk (Kd.N_lower (Kd.N_mono (ok' := fun k_ => some k_ ≠ (.slice Ao24 t921.length co24 : Value).ownBlock) ho0 (fun k_ hk_ => (Kd.fresh' (Kd.N_lt (by (with_reducible repeat (first | apply Kd.N_alloc | apply Kd.N_drewN | apply Kd.N_drew)); exact HO923.out)) k_ hk_))) (below_size (by repeat (first | (with_reducible first | exact HB.out | apply below_alloc | apply pw_below_drewN | apply below_drew1) | exact HB.out)))); have n2_ := Aside0.mk (below_step (by repeat (first | (with_reducible first | exact HB.out | apply below_alloc | apply pw_below_drewN | apply below_drew1) | exact HB.out)) hb); clear HO923; clear HB; have HO923 := n0_; have HO927 := n1_; have HB := n2_; clear n0_ n1_ n2_; (try clear hb); (try clear hb2); (try clear hk); (try clear hi); (try clear ho0); obtain ⟨Ao27, co27, eo27⟩ := Kd.N_slice HO927.out; subst eo27) | ((with_reducible refine gate_callee (f := 54) rfl ?_); refine goesL_ (some 30) rfl rfl Try.func54 (by kernel_rfl) rfl #[.agg #[.int .i64 1, .int .i64 0, .int .u8 2, .int .i64 1, .int .i64 0], .slice Ao27 t925.length co27, .int .i64 1] rfl (by (try simp only [List.map_toArray, List.map_cons, List.map_nil]); first | done | rfl | (simp only [List.length_drop, List.length_take]; rfl)) ?_; (with_reducible refine (rela_Check.calls k 1 0 2 1 0 _ _ t925 1 t928 _ ?side1 ?side2 A7.out).mono ?_); (case side1 => repeat (first | exact (Kd.N_reads' HO927.out).2.2 | (with_reducible refine Kd.C_alloc ?_ _) | (with_reducible refine Kd.C_drewN ?_ _) | (with_reducible refine Kd.C_drew ?_))); (case side2 => exact (Kd.N_reads' HO927.out).2.1); rintro e w28 ⟨rfl, hb⟩; refine ⟨_, rfl, ?_⟩; have n0_ := Aside0.mk (Kd.N_below (by (with_reducible repeat (first | apply Kd.N_alloc | apply Kd.N_drewN | apply Kd.N_drew)); exact HO923.out) hb); have n1_ := Aside0.mk (Kd.N_below (by (with_reducible repeat (first | apply Kd.N_alloc | apply Kd.N_drewN | apply Kd.N_drew)); exact HO927.out) hb); have n2_ := Aside0.mk (below_step (by repeat (first | (with_reducible first | exact HB.out | apply below_alloc | apply pw_below_drewN | apply below_drew1) | exact HB.out)) hb); clear HO923; clear HO927; clear HB; have HO923 := n0_; have HO927 := n1_; have HB := n2_; clear n0_ n1_ n2_; (try clear hb); (try clear hb2); (try clear hk); (try clear hi)) | ((with_reducible refine gate_callee (f := 62) rfl ?_); refine goesL_ (some 32) rfl rfl Try.func62 (by kernel_rfl) rfl #[.slice none 0 0] rfl (by (try simp only [List.map_toArray, List.map_cons, List.map_nil]); first | done | rfl | (simp only [List.length_drop, List.length_take]; rfl)) ?_; (refine (rela_Read.calls k _ _ ([] : List Int) t929 t930 t931 t932 t933 t934 _ ?side1 ?side2 A8.out).mono ?_); (case side1 => exact Kd.C_nil _ _); (case side2 => exact Nat.le_refl _); rintro e w29 ⟨rfl, hb⟩; refine ⟨_, rfl, ?_⟩; have n0_ := Aside0.mk (Kd.N_below (by (with_reducible repeat (first | apply Kd.N_alloc | apply Kd.N_drewN | apply Kd.N_drew)); exact HO923.out) hb); have n1_ := Aside0.mk (Kd.N_below (by (with_reducible repeat (first | apply Kd.N_alloc | apply Kd.N_drewN | apply Kd.N_drew)); exact HO927.out) hb); have n2_ := Aside0.mk (below_step (by repeat (first | (with_reducible first | exact HB.out | apply below_alloc | apply pw_below_drewN | apply below_drew1) | exact HB.out)) hb); clear HO923; clear HO927; clear HB; have HO923 := n0_; have HO927 := n1_; have HB := n2_; clear n0_ n1_ n2_; (try clear hb); (try clear hb2); (try clear hk); (try clear hi)) | ((with_reducible refine gate_dst (N := 9) rfl ?_); refine box_event ?hg (N := 9) ?hd (cs := #[.int .i64 0, .int .i64 0, .int .u8 0, .int .i64 0, .int .i64 0]) (t := 71) ?hr ?_; (case hd => rfl); (case hg => rfl); (case hr => first | (go_simp; done) | (go_simp; rfl)); intro gb935 hg w30 hbox hb; have n0_ := Aside0.mk (Kd.N_below (Kd.N_elderB (by (with_reducible repeat (first | apply Kd.N_alloc | apply Kd.N_drewN | apply Kd.N_drew)); exact HO923.out) gb935 (Nat.le_of_eq hg.symm)) hb); have n1_ := Aside0.mk (Kd.N_below (Kd.N_elderB (by (with_reducible repeat (first | apply Kd.N_alloc | apply Kd.N_drewN | apply Kd.N_drew)); exact HO927.out) gb935 (Nat.le_of_eq hg.symm)) hb); have n2_ := Aside0.mk (below_step (by repeat (first | (with_reducible first | exact HB.out | apply below_alloc | apply pw_below_drewN | apply below_drew1) | exact HB.out)) hb); have n3_ := Aside0.mk (hbox); have n4_ := Aside0.mk ((by rw [hg]; exact (below_size (by repeat (first | (with_reducible first | exact HB.out | apply below_alloc | apply pw_below_drewN | apply below_drew1) | exact HB.out))) : w.heap.size ≤ gb935)); have n5_ := Aside0.mk ((by rw [hg]; exact (below_size (by repeat (first | (with_reducible first | exact HB.out | apply below_alloc | apply pw_below_drewN | apply below_drew1) | exact HB.out))) : w.heap.size ≤ gb935)); clear HO923; clear HO927; clear HB; have HO923 := n0_; have HO927 := n1_; have HB := n2_; have BK935 := n3_; have GW935 := n4_; have GE935 := n5_; clear n0_ n1_ n2_ n3_ n4_ n5_; clear hb hbox hg; have hcz31_0 : w30.cell? ⟨gb935, 0, none⟩ = some (.int .i64 0) := (blk_cell BK935.out 0).trans rfl; have hcz31_1 : w30.cell? ⟨gb935, 1, none⟩ = some (.int .i64 0) := (blk_cell BK935.out 1).trans rfl; have hcz31_2 : w30.cell? ⟨gb935, 2, none⟩ = some (.int .u8 0) := (blk_cell BK935.out 2).trans rfl; have hcz31_3 : w30.cell? ⟨gb935, 3, none⟩ = some (.int .i64 0) := (blk_cell BK935.out 3).trans rfl; have hcz31_4 : w30.cell? ⟨gb935, 4, none⟩ = some (.int .i64 0) := (blk_cell BK935.out 4).trans rfl; have hfz31_0 := blk_frozen BK935.out 0; have hfz31_1 := blk_frozen BK935.out 1; have hfz31_2 := blk_frozen BK935.out 2; have hfz31_3 := blk_frozen BK935.out 3; have hfz31_4 := blk_frozen BK935.out 4) | ((with_reducible refine gate_store (t := 71) (p := 9) rfl ?_); refine store_event (t := 71) (p := 9) (v := ?vo_w32) (w1 := (((((w30.setCell ⟨gb935, 0, none⟩ (.int .i64 t929)).setCell ⟨gb935, 1, none⟩ (.int .i64 t930)).setCell ⟨gb935, 2, none⟩ (.int .u8 t931)).setCell ⟨gb935, 3, none⟩ (.int .i64 t932)).setCell ⟨gb935, 4, none⟩ (.int .i64 t933))) ?hg ?ho ?hn ?hr ?_; (case ho => rfl); (case hg => rfl); (case hn => rfl); (case hr => first | (go_simp; done) | (go_simp; rfl)); intro w32 hw; have n0_ : Aside0 (Kd.N k36 36 w32 w.heap.size (fun k_ => some k_ ≠ (.slice Ao27 t925.length co27 : Value).ownBlock ∧ k_ ≠ gb935) (.slice Ao24 t921.length co24) t921) := ⟨(by rw [hw]; exact (by (with_reducible repeat (first | apply Kd.N_alloc | apply Kd.N_drewN | apply Kd.N_drew)); exact Kd.N_mono (Kd.N_far (p := ⟨gb935, 4, none⟩) (Kd.N_far (p := ⟨gb935, 3, none⟩) (Kd.N_far (p := ⟨gb935, 2, none⟩) (Kd.N_far (p := ⟨gb935, 1, none⟩) (Kd.N_far (p := ⟨gb935, 0, none⟩) (Kd.N_mono HO923.out (fun k_ hk => (⟨hk, hk.2⟩ : _ ∧ k_ ≠ gb935))) (fun _ hk => hk.2) (.int .i64 t929)) (fun _ hk => hk.2) (.int .i64 t930)) (fun _ hk => hk.2) (.int .u8 t931)) (fun _ hk => hk.2) (.int .i64 t932)) (fun _ hk => hk.2) (.int .i64 t933)) (fun _ hk => ⟨hk.1.1.2, hk.1.2⟩)))⟩; have n1_ : Aside0 (Kd.N k36 36 w32 w.heap.size (fun k_ => some k_ ≠ (.slice Ao24 t921.length co24 : Value).ownBlock ∧ k_ ≠ gb935) (.slice Ao27 t925.length co27) t925) := ⟨(by rw [hw]; exact (by (with_reducible repeat (first | apply Kd.N_alloc | apply Kd.N_drewN | apply Kd.N_drew)); exact Kd.N_mono (Kd.N_far (p := ⟨gb935, 4, none⟩) (Kd.N_far (p := ⟨gb935, 3, none⟩) (Kd.N_far (p := ⟨gb935, 2, none⟩) (Kd.N_far (p := ⟨gb935, 1, none⟩) (Kd.N_far (p := ⟨gb935, 0, none⟩) (Kd.N_mono HO927.out (fun k_ hk => (⟨hk, hk.2⟩ : _ ∧ k_ ≠ gb935))) (fun _ hk => hk.2) (.int .i64 t929)) (fun _ hk => hk.2) (.int .i64 t930)) (fun _ hk => hk.2) (.int .u8 t931)) (fun _ hk => hk.2) (.int .i64 t932)) (fun _ hk => hk.2) (.int .i64 t933)) (fun _ hk => ⟨hk.1.1, hk.1.2⟩)))⟩; have n2_ : Aside0 (w32.heap[gb935]? = some (.cells #[.int .i64 t929, .int .i64 t930, .int .u8 t931, .int .i64 t932, .int .i64 t933] 71 (0, 0))) := ⟨(by rw [hw]; exact (by (with_reducible repeat (first | refine blk_drewN ?_ _ | refine blk_drew ?_ | refine blk_alloc ?_ _)); refine blk_put (cs := #[.int .i64 t929, .int .i64 t930, .int .u8 t931, .int .i64 t932, .int .i64 0]) ?_ 4 _ rfl; (with_reducible repeat (first | refine blk_drewN ?_ _ | refine blk_drew ?_ | refine blk_alloc ?_ _)); refine blk_put (cs := #[.int .i64 t929, .int .i64 t930, .int .u8 t931, .int .i64 0, .int .i64 0]) ?_ 3 _ rfl; (with_reducible repeat (first | refine blk_drewN ?_ _ | refine blk_drew ?_ | refine blk_alloc ?_ _)); refine blk_put (cs := #[.int .i64 t929, .int .i64 t930, .int .u8 0, .int .i64 0, .int .i64 0]) ?_ 2 _ rfl; (with_reducible repeat (first | refine blk_drewN ?_ _ | refine blk_drew ?_ | refine blk_alloc ?_ _)); refine blk_put (cs := #[.int .i64 t929, .int .i64 0, .int .u8 0, .int .i64 0, .int .i64 0]) ?_ 1 _ rfl; (with_reducible repeat (first | refine blk_drewN ?_ _ | refine blk_drew ?_ | refine blk_alloc ?_ _)); refine blk_put (cs := #[.int .i64 0, .int .i64 0, .int .u8 0, .int .i64 0, .int .i64 0]) ?_ 0 _ rfl; (with_reducible repeat (first | refine blk_drewN ?_ _ | refine blk_drew ?_ | refine blk_alloc ?_ _)); exact BK935.out))⟩; have n3_ : Aside0 (Below w.heap.size w w32) := ⟨(by rw [hw]; exact (by repeat (first | (with_reducible first | exact HB.out | apply below_alloc | apply pw_below_drewN | apply below_drew1 | refine below_set ?_ GE935.out) | exact HB.out)))⟩; clear hw; clear HO923; clear HO927; clear BK935; clear HB; have HO923 := n0_; have HO927 := n1_; have BK935 := n2_; have HB := n3_; clear n0_ n1_ n2_ n3_) | ((with_reducible refine gate_dst (N := 36) rfl ?_); refine Kd.N_make k36 _ 36 rfl (N' := 36) rfl 72 _ _ rfl 17 rfl rfl Try.underlying72 (.agg #[(.string ⟨#[]⟩), (.int .i64 0), (.slice none 0 0), (.int .i64 0)]) 56 info36 rfl (by decide) (by omega) z36 (ok := fun k_ => w32.heap.size ≤ k_) (okp := fun _ => False) (k36_mkF _ _ z36 (Nat.le_refl _) (Kd.F_nil _ _ _)) (fun _ hk => hk.elim) (by first | exact Nat.le_refl _ | (simp [World.setCell]; done)) (by omega) (by omega) (Below.refl _ _) (Nat.le_refl _) ?_; intro v937 w33 ho34 hb hg_ hnew_; clear hg_ hnew_; (first | rw [← Ny936.out] at ho34 | (simp only [Int.reduceToNat] at ho34; rw [← Ny936.out] at ho34)); have n0_ := Aside0.mk (Kd.N_elder' (by (with_reducible repeat (first | apply Kd.N_alloc | apply Kd.N_drewN | apply Kd.N_drew)); exact HO923.out) (Kd.N_base ho34) hb); have n1_ := Aside0.mk (Kd.N_elder' (by (with_reducible repeat (first | apply Kd.N_alloc | apply Kd.N_drewN | apply Kd.N_drew)); exact HO927.out) (Kd.N_base ho34) hb); have n2_ := Aside0.mk (Kd.N_lower (Kd.N_mono (ok' := fun k_ => some k_ ≠ (.slice Ao24 t921.length co24 : Value).ownBlock ∧ some k_ ≠ (.slice Ao27 t925.length co27 : Value).ownBlock ∧ k_ ≠ gb935) ho34 (fun k_ hk_ => ⟨(Kd.fresh' (Kd.N_lt (by (with_reducible repeat (first | apply Kd.N_alloc | apply Kd.N_drewN | apply Kd.N_drew)); exact HO923.out)) k_ hk_), (Kd.fresh' (Kd.N_lt (by (with_reducible repeat (first | apply Kd.N_alloc | apply Kd.N_drewN | apply Kd.N_drew)); exact HO927.out)) k_ hk_), (Kd.freshB (g := gb935) (o := .cells #[.int .i64 t929, .int .i64 t930, .int .u8 t931, .int .i64 t932, .int .i64 t933] 71 (0, 0)) (by (with_reducible repeat (first | refine blk_drewN ?_ _ | refine blk_drew ?_ | refine blk_alloc ?_ _)); exact BK935.out) k_ hk_)⟩)) (below_size (by repeat (first | (with_reducible first | exact HB.out | apply below_alloc | apply pw_below_drewN | apply below_drew1 | refine below_set ?_ GE935.out) | exact HB.out)))); have n3_ := Aside0.mk (blk_below (g := gb935) (o := .cells #[.int .i64 t929, .int .i64 t930, .int .u8 t931, .int .i64 t932, .int .i64 t933] 71 (0, 0)) (by (with_reducible repeat (first | refine blk_drewN ?_ _ | refine blk_drew ?_ | refine blk_alloc ?_ _)); exact BK935.out) hb); have n4_ := Aside0.mk (below_step (by repeat (first | (with_reducible first | exact HB.out | apply below_alloc | apply pw_below_drewN | apply below_drew1 | refine below_set ?_ GE935.out) | exact HB.out)) hb); clear HO923; clear HO927; clear BK935; clear HB; have HO923 := n0_; have HO927 := n1_; have HO938 := n2_; have BK935 := n3_; have HB := n4_; clear n0_ n1_ n2_ n3_ n4_; clear hb ho34; obtain ⟨Ao35, co35, eo35⟩ := Kd.N_slice HO938.out; subst eo35) | ((with_reducible refine gate_callee (f := 54) rfl ?_); refine goesL_ (some 37) rfl rfl Try.func54 (by kernel_rfl) rfl #[.agg #[.int .i64 0, .int .i64 0, .int .u8 0, .int .i64 0, .int .i64 0], .slice Ao35 y936.length co35, .int .i64 1] rfl (by (try simp only [List.map_toArray, List.map_cons, List.map_nil]); first | done | rfl | (simp only [List.length_drop, List.length_take]; rfl)) ?_; (with_reducible refine (rela_Check.calls k 0 0 0 0 0 _ _ y936 1 t939 _ ?side1 ?side2 A10.out).mono ?_); (case side1 => repeat (first | exact (Kd.N_reads' HO938.out).2.2 | (with_reducible refine Kd.C_alloc ?_ _) | (with_reducible refine Kd.C_drewN ?_ _) | (with_reducible refine Kd.C_drew ?_))); (case side2 => exact (Kd.N_reads' HO938.out).2.1); rintro e w36 ⟨rfl, hb⟩; refine ⟨_, rfl, ?_⟩; have n0_ := Aside0.mk (Kd.N_below (by (with_reducible repeat (first | apply Kd.N_alloc | apply Kd.N_drewN | apply Kd.N_drew)); exact HO923.out) hb); have n1_ := Aside0.mk (Kd.N_below (by (with_reducible repeat (first | apply Kd.N_alloc | apply Kd.N_drewN | apply Kd.N_drew)); exact HO927.out) hb); have n2_ := Aside0.mk (Kd.N_below (by (with_reducible repeat (first | apply Kd.N_alloc | apply Kd.N_drewN | apply Kd.N_drew)); exact HO938.out) hb); have n3_ := Aside0.mk (blk_below (g := gb935) (o := .cells #[.int .i64 t929, .int .i64 t930, .int .u8 t931, .int .i64 t932, .int .i64 t933] 71 (0, 0)) (by (with_reducible repeat (first | refine blk_drewN ?_ _ | refine blk_drew ?_ | refine blk_alloc ?_ _)); exact BK935.out) hb); have n4_ := Aside0.mk (below_step (by repeat (first | (with_reducible first | exact HB.out | apply below_alloc | apply pw_below_drewN | apply below_drew1 | refine below_set ?_ GE935.out) | exact HB.out)) hb); clear HO923; clear HO927; clear HO938; clear BK935; clear HB; have HO923 := n0_; have HO927 := n1_; have HO938 := n2_; have BK935 := n3_; have HB := n4_; clear n0_ n1_ n2_ n3_ n4_; (try clear hb); (try clear hb2); (try clear hk); (try clear hi)) | ((with_reducible refine gate_callee (f := 54) rfl ?_); refine goesL_ (some 39) rfl rfl Try.func54 (by kernel_rfl) rfl #[.agg #[.int .i64 0, .int .i64 0, .int .u8 0, .int .i64 0, .int .i64 0], .slice none 0 0, .int .i64 65] rfl (by (try simp only [List.map_toArray, List.map_cons, List.map_nil]); first | done | rfl | (simp only [List.length_drop, List.length_take]; rfl)) ?_; (refine (rela_Check.calls k 0 0 0 0 0 _ _ ([] : List (S36)) 65 t940 _ ?side1 ?side2 A11.out).mono ?_); (case side1 => exact Kd.C_nil _ _); (case side2 => exact Nat.le_refl _); rintro e w37 ⟨rfl, hb⟩; refine ⟨_, rfl, ?_⟩; have n0_ := Aside0.mk (Kd.N_below (by (with_reducible repeat (first | apply Kd.N_alloc | apply Kd.N_drewN | apply Kd.N_drew)); exact HO923.out) hb); have n1_ := Aside0.mk (Kd.N_below (by (with_reducible repeat (first | apply Kd.N_alloc | apply Kd.N_drewN | apply Kd.N_drew)); exact HO927.out) hb); have n2_ := Aside0.mk (Kd.N_below (by (with_reducible repeat (first | apply Kd.N_alloc | apply Kd.N_drewN | apply Kd.N_drew)); exact HO938.out) hb); have n3_ := Aside0.mk (blk_below (g := gb935) (o := .cells #[.int .i64 t929, .int .i64 t930, .int .u8 t931, .int .i64 t932, .int .i64 t933] 71 (0, 0)) (by (with_reducible repeat (first | refine blk_drewN ?_ _ | refine blk_drew ?_ | refine blk_alloc ?_ _)); exact BK935.out) hb); have n4_ := Aside0.mk (below_step (by repeat (first | (with_reducible first | exact HB.out | apply below_alloc | apply pw_below_drewN | apply below_drew1 | refine below_set ?_ GE935.out) | exact HB.out)) hb); clear HO923; clear HO927; clear HO938; clear BK935; clear HB; have HO923 := n0_; have HO927 := n1_; have HO938 := n2_; have BK935 := n3_; have HB := n4_; clear n0_ n1_ n2_ n3_ n4_; (try clear hb); (try clear hb2); (try clear hk); (try clear hi)) | (go_at_call 52; (with_reducible refine (quoinlaw11_alive.calls k  true _ A12.out).mono ?_); rintro e w38 ⟨rfl, hb⟩; have n0_ := Aside0.mk (Kd.N_below (by (with_reducible repeat (first | apply Kd.N_alloc | apply Kd.N_drewN | apply Kd.N_drew)); exact HO923.out) hb); have n1_ := Aside0.mk (Kd.N_below (by (with_reducible repeat (first | apply Kd.N_alloc | apply Kd.N_drewN | apply Kd.N_drew)); exact HO927.out) hb); have n2_ := Aside0.mk (Kd.N_below (by (with_reducible repeat (first | apply Kd.N_alloc | apply Kd.N_drewN | apply Kd.N_drew)); exact HO938.out) hb); have n3_ := Aside0.mk (blk_below (g := gb935) (o := .cells #[.int .i64 t929, .int .i64 t930, .int .u8 t931, .int .i64 t932, .int .i64 t933] 71 (0, 0)) (by (with_reducible repeat (first | refine blk_drewN ?_ _ | refine blk_drew ?_ | refine blk_alloc ?_ _)); exact BK935.out) hb); have n4_ := Aside0.mk (below_step (by repeat (first | (with_reducible first | exact HB.out | apply below_alloc | apply pw_below_drewN | apply below_drew1 | refine below_set ?_ GE935.out) | exact HB.out)) hb); clear HO923; clear HO927; clear HO938; clear BK935; clear HB; have HO923 := n0_; have HO927 := n1_; have HO938 := n2_; have BK935 := n3_; have HB := n4_; clear n0_ n1_ n2_ n3_ n4_; (try clear hb); (try clear hb2); (try clear hk); (try clear hi)))
            go_ret
            exact ⟨by first | rfl | (simp [errW_none, errW_some] <;> rfl) | (simp [*, errW_none, errW_some] <;> rfl), by repeat (first | (with_reducible first | exact HB.out | apply below_alloc | apply pw_below_drewN | apply below_drew1 | refine below_set ?_ GE935.out) | exact HB.out)⟩
           ·
            rw [if_neg c22] at H
            exact absurd H (by simp)
          ·
           rw [if_neg c21] at H
           exact absurd H (by simp)
         ·
          rw [if_neg c20] at H
          exact absurd H (by simp)
        ·
         rw [if_neg c19] at H
         exact absurd H (by simp)
       ·
        rw [if_neg c18] at H
        exact absurd H (by simp)
      ·
       rw [if_neg c17] at H
       exact absurd H (by simp)
     ·
      rw [if_neg c16] at H
      exact absurd H (by simp)
    ·
     rw [if_neg c15] at H
     exact absurd H (by simp)
   ·
    rw [if_neg c14] at H
    exact absurd H (by simp)
  ·
   replace c13 := Bool.eq_false_iff.mpr c13
   subst c13
   have H1 : (none) = some r := by rw [if_neg (show ¬ (false = true) by decide)] at H; exact H
   clear H
   have H := H1
   clear H1
   exact absurd H (by simp)
 ·
  rw [if_neg c9] at H
  exact absurd H (by simp)

/-- THE ONE PURE STATEMENT of quoinlaw11_RelaNames: yours. -/
def quoinlaw11_RelaNames.Pure : Prop := ∃ k, quoinlaw11_RelaNames.f k  = some true
theorem quoinlaw11_RelaNames.walk (P : quoinlaw11_RelaNames.Pure)  (w : World)  :
  Calls Try.prog 24 #[] w fun e w' => e = .returned (.bool true) ∧ Below w.heap.size w w' := by
 obtain ⟨k, h⟩ := P  
 refine (quoinlaw11_RelaNames.calls k  true w h).mono ?_
 rintro e w' ⟨rfl, hd⟩
 exact ⟨rfl, hd⟩

end Go.Proofs.Ytomabnfeipobnaa.P
