/- What is proved here: for functions of the Go text, a Lean function each, and that the call comes to just what it answers. Conditions: as each contract names them. Written by wip/tools/myprint.py, a driver of the print of the kit. -/
import Derived.Test.YtfialmegikegbaaP0
import Derived.Test.YtfialmegikegbaaP1
import Derived.Test.YtfialmegikegbaaP3
import Derived.Test.YtfialmegikegbaaP5
import Derived.Test.YtfialmegikegbaaP6
import Derived.Test.YtfialmegikegbaaP7
import Derived.Test.YtfialmegikegbaaWAbbr
namespace Go.Proofs.Ytfialmegikegbaa.P
open Go.RowKit Go.Proofs.YtfialmegikegbaaW.PrintWords Go.Proofs.YtfialmegikegbaaW.PrintLast Go.Proofs.YtfialmegikegbaaW.PrintMore Go.Proofs.YtfialmegikegbaaW.Abbr
-- PACKED
attribute [local go_sem] max2_int min2_int max_two min_two max_three min_three max_four min_four Go.Proofs.YtfialmegikegbaaLaws.str_leq Go.Proofs.YtfialmegikegbaaLaws.str_gtr Go.Proofs.YtfialmegikegbaaLaws.str_geq Go.Proofs.YtfialmegikegbaaLaws.max2_str Go.Proofs.YtfialmegikegbaaLaws.min2_str   -- for this text's walks alone
set_option linter.unusedVariables false
set_option linter.unusedSimpArgs false

/-! ### withylaw17_LevelTells: function 3 -/
def withylaw17_LevelTells.f (k : Nat) (l0 : List ByteArray) (a1 : Int) (a2 : Int) : Option (Bool) := (withylaw17_Cut.f k l0).bind fun t492 => ((level_Right.f k t492 a1).bind fun t495 => ((withyref17_Right.f k t492 a1).bind fun t496 => (if (t495 != t496) = true then (none) else ((withylaw16_Size.f a2).bind fun t497 => ((withylaw17_Rise.f k l0 t497).bind fun t498 => ((withyref17_Group.f k t498 t497).bind fun t501 => ((level_Right.f k t498 t497).bind fun t504 => (if t504 = true then ((level_Group.f k t498 t497).bind fun t505 => ((withyref01_Ints.f k t505 t501).bind fun t508 => (if t508 = true then ((level_Up.f k t498 t501).bind fun t509 => ((withyref17_Up.f k t498 t501).bind fun t512 => ((withyref01_Words.f k t509 t512).bind fun t515 => (if t515 = true then ((level_Down.f k t498 t501).bind fun t516 => ((withyref17_Down.f k t498 t501).bind fun t519 => ((withylaw17_lists.f k t516 t519).bind fun t522 => (if t522 = true then ((level_Heights.f k t498 t497).bind fun t523 => ((withyref17_Heights.f k t498 t497).bind fun t526 => ((withylaw17_numbers.f k t523 t526).bind fun t529 => (if t529 = true then ((withylaw17_fixed.f k).bind fun t530 => (some t530)) else (none))))) else (none))))) else (none))))) else (none)))) else (none)))))))))
theorem withylaw17_LevelTells.mono : ∀ a0 a1 a2 k, LeO (withylaw17_LevelTells.f k a0 a1 a2) (withylaw17_LevelTells.f (k + 1) a0 a1 a2) := by
 intro a0 a1 a2 k
 unfold withylaw17_LevelTells.f
 repeat' first
   | (with_reducible exact level_Down.mono _ _ _)
   | (with_reducible exact level_Group.mono _ _ _)
   | (with_reducible exact level_Heights.mono _ _ _)
   | (with_reducible exact level_Right.mono _ _ _)
   | (with_reducible exact level_Up.mono _ _ _)
   | (with_reducible exact withylaw17_Cut.mono _ _)
   | (with_reducible exact withylaw17_Rise.mono _ _ _)
   | (with_reducible exact withylaw17_fixed.mono _)
   | (with_reducible exact withylaw17_lists.mono _ _ _)
   | (with_reducible exact withylaw17_numbers.mono _ _ _)
   | (with_reducible exact withyref01_Ints.mono _ _ _)
   | (with_reducible exact withyref01_Words.mono _ _ _)
   | (with_reducible exact withyref17_Down.mono _ _ _)
   | (with_reducible exact withyref17_Group.mono _ _ _)
   | (with_reducible exact withyref17_Heights.mono _ _ _)
   | (with_reducible exact withyref17_Right.mono _ _ _)
   | (with_reducible exact withyref17_Up.mono _ _ _)
   | (with_reducible exact LeO.refl _)
   | (with_reducible exact LeO.none _)
   | (with_reducible refine LeO.ite ?_ ?_)
   | (with_reducible refine LeO.bind ?_ (fun _ => ?_))
   | exact level_Down.mono _ _ _
   | exact level_Group.mono _ _ _
   | exact level_Heights.mono _ _ _
   | exact level_Right.mono _ _ _
   | exact level_Up.mono _ _ _
   | exact withylaw17_Cut.mono _ _
   | exact withylaw17_Rise.mono _ _ _
   | exact withylaw17_fixed.mono _
   | exact withylaw17_lists.mono _ _ _
   | exact withylaw17_numbers.mono _ _ _
   | exact withyref01_Ints.mono _ _ _
   | exact withyref01_Words.mono _ _ _
   | exact withyref17_Down.mono _ _ _
   | exact withyref17_Group.mono _ _ _
   | exact withyref17_Heights.mono _ _ _
   | exact withyref17_Right.mono _ _ _
   | exact withyref17_Up.mono _ _ _
   | exact LeO.none _
   | refine LeO.ite ?_ ?_
   | refine LeO.bind ?_ (fun _ => ?_)
set_option maxHeartbeats 8000000 in
set_option maxRecDepth 100000 in
theorem withylaw17_LevelTells.calls (k : Nat) (A0 : Option Addr) (c0 : Nat) (l0 : List ByteArray) (a1 : Int) (a2 : Int) (r : Bool) (w : World) (hr0 : Kd.C Kd.string w A0 l0.length l0) (hc0 : l0.length ≤ c0) (h : withylaw17_LevelTells.f k l0 a1 a2 = some r) :
  Calls Try.prog 3 #[.slice A0 l0.length c0, .int .i64 a1, .int .i64 a2] w fun e w' => e = .returned (.bool r) ∧ Below w.heap.size w w' := by
 have HR0 := Aside0.mk hr0
 have HC0 := Aside0.mk hc0
 clear hr0 hc0
 have HB := as_ (Below.refl w.heap.size w)
 have H : ((withylaw17_Cut.f k l0).bind fun t492 => ((level_Right.f k t492 a1).bind fun t495 => ((withyref17_Right.f k t492 a1).bind fun t496 => (if (t495 != t496) = true then (none) else ((withylaw16_Size.f a2).bind fun t497 => ((withylaw17_Rise.f k l0 t497).bind fun t498 => ((withyref17_Group.f k t498 t497).bind fun t501 => ((level_Right.f k t498 t497).bind fun t504 => (if t504 = true then ((level_Group.f k t498 t497).bind fun t505 => ((withyref01_Ints.f k t505 t501).bind fun t508 => (if t508 = true then ((level_Up.f k t498 t501).bind fun t509 => ((withyref17_Up.f k t498 t501).bind fun t512 => ((withyref01_Words.f k t509 t512).bind fun t515 => (if t515 = true then ((level_Down.f k t498 t501).bind fun t516 => ((withyref17_Down.f k t498 t501).bind fun t519 => ((withylaw17_lists.f k t516 t519).bind fun t522 => (if t522 = true then ((level_Heights.f k t498 t497).bind fun t523 => ((withyref17_Heights.f k t498 t497).bind fun t526 => ((withylaw17_numbers.f k t523 t526).bind fun t529 => (if t529 = true then ((withylaw17_fixed.f k).bind fun t530 => (some t530)) else (none))))) else (none))))) else (none))))) else (none)))) else (none)))))))))) = some r := h
 clear h
 replace H := bM H
 obtain ⟨t492, A40, H⟩ := H
 replace H : ((level_Right.f k t492 a1).bind fun t495 => ((withyref17_Right.f k t492 a1).bind fun t496 => (if (t495 != t496) = true then (none) else ((withylaw16_Size.f a2).bind fun t497 => ((withylaw17_Rise.f k l0 t497).bind fun t498 => ((withyref17_Group.f k t498 t497).bind fun t501 => ((level_Right.f k t498 t497).bind fun t504 => (if t504 = true then ((level_Group.f k t498 t497).bind fun t505 => ((withyref01_Ints.f k t505 t501).bind fun t508 => (if t508 = true then ((level_Up.f k t498 t501).bind fun t509 => ((withyref17_Up.f k t498 t501).bind fun t512 => ((withyref01_Words.f k t509 t512).bind fun t515 => (if t515 = true then ((level_Down.f k t498 t501).bind fun t516 => ((withyref17_Down.f k t498 t501).bind fun t519 => ((withylaw17_lists.f k t516 t519).bind fun t522 => (if t522 = true then ((level_Heights.f k t498 t497).bind fun t523 => ((withyref17_Heights.f k t498 t497).bind fun t526 => ((withylaw17_numbers.f k t523 t526).bind fun t529 => (if t529 = true then ((withylaw17_fixed.f k).bind fun t530 => (some t530)) else (none))))) else (none))))) else (none))))) else (none)))) else (none))))))))) = some r := H
 have A4 := Aside0.mk A40
 clear A40
 replace H := bM H
 obtain ⟨t495, A50, H⟩ := H
 replace H : ((withyref17_Right.f k t492 a1).bind fun t496 => (if (t495 != t496) = true then (none) else ((withylaw16_Size.f a2).bind fun t497 => ((withylaw17_Rise.f k l0 t497).bind fun t498 => ((withyref17_Group.f k t498 t497).bind fun t501 => ((level_Right.f k t498 t497).bind fun t504 => (if t504 = true then ((level_Group.f k t498 t497).bind fun t505 => ((withyref01_Ints.f k t505 t501).bind fun t508 => (if t508 = true then ((level_Up.f k t498 t501).bind fun t509 => ((withyref17_Up.f k t498 t501).bind fun t512 => ((withyref01_Words.f k t509 t512).bind fun t515 => (if t515 = true then ((level_Down.f k t498 t501).bind fun t516 => ((withyref17_Down.f k t498 t501).bind fun t519 => ((withylaw17_lists.f k t516 t519).bind fun t522 => (if t522 = true then ((level_Heights.f k t498 t497).bind fun t523 => ((withyref17_Heights.f k t498 t497).bind fun t526 => ((withylaw17_numbers.f k t523 t526).bind fun t529 => (if t529 = true then ((withylaw17_fixed.f k).bind fun t530 => (some t530)) else (none))))) else (none))))) else (none))))) else (none)))) else (none)))))))) = some r := H
 have A5 := Aside0.mk A50
 clear A50
 replace H := bM H
 obtain ⟨t496, A60, H⟩ := H
 replace H : (if (t495 != t496) = true then (none) else ((withylaw16_Size.f a2).bind fun t497 => ((withylaw17_Rise.f k l0 t497).bind fun t498 => ((withyref17_Group.f k t498 t497).bind fun t501 => ((level_Right.f k t498 t497).bind fun t504 => (if t504 = true then ((level_Group.f k t498 t497).bind fun t505 => ((withyref01_Ints.f k t505 t501).bind fun t508 => (if t508 = true then ((level_Up.f k t498 t501).bind fun t509 => ((withyref17_Up.f k t498 t501).bind fun t512 => ((withyref01_Words.f k t509 t512).bind fun t515 => (if t515 = true then ((level_Down.f k t498 t501).bind fun t516 => ((withyref17_Down.f k t498 t501).bind fun t519 => ((withylaw17_lists.f k t516 t519).bind fun t522 => (if t522 = true then ((level_Heights.f k t498 t497).bind fun t523 => ((withyref17_Heights.f k t498 t497).bind fun t526 => ((withylaw17_numbers.f k t523 t526).bind fun t529 => (if t529 = true then ((withylaw17_fixed.f k).bind fun t530 => (some t530)) else (none))))) else (none))))) else (none))))) else (none)))) else (none))))))) = some r := H
 have A6 := Aside0.mk A60
 clear A60
 by_cases c7 : (t495 != t496) = true
 ·rw [if_pos c7] at H
  exact absurd H (by simp)
 rw [if_neg c7] at H
 have c7b0 : (t495 != t496) = false := by simpa using c7
 (try (have c7b1 : t495 = t496 := by simpa using c7))
 (try (have c7b2 : decide (t495 = t496) = true := by simpa using c7))
 (try (have c7b3 : (t495 == t496) = true := by simpa using c7))
 clear c7
 replace H := bM H
 obtain ⟨t497, A80, H⟩ := H
 replace H : ((withylaw17_Rise.f k l0 t497).bind fun t498 => ((withyref17_Group.f k t498 t497).bind fun t501 => ((level_Right.f k t498 t497).bind fun t504 => (if t504 = true then ((level_Group.f k t498 t497).bind fun t505 => ((withyref01_Ints.f k t505 t501).bind fun t508 => (if t508 = true then ((level_Up.f k t498 t501).bind fun t509 => ((withyref17_Up.f k t498 t501).bind fun t512 => ((withyref01_Words.f k t509 t512).bind fun t515 => (if t515 = true then ((level_Down.f k t498 t501).bind fun t516 => ((withyref17_Down.f k t498 t501).bind fun t519 => ((withylaw17_lists.f k t516 t519).bind fun t522 => (if t522 = true then ((level_Heights.f k t498 t497).bind fun t523 => ((withyref17_Heights.f k t498 t497).bind fun t526 => ((withylaw17_numbers.f k t523 t526).bind fun t529 => (if t529 = true then ((withylaw17_fixed.f k).bind fun t530 => (some t530)) else (none))))) else (none))))) else (none))))) else (none)))) else (none))))) = some r := H
 have A8 := Aside0.mk A80
 clear A80
 replace H := bM H
 obtain ⟨t498, A90, H⟩ := H
 replace H : ((withyref17_Group.f k t498 t497).bind fun t501 => ((level_Right.f k t498 t497).bind fun t504 => (if t504 = true then ((level_Group.f k t498 t497).bind fun t505 => ((withyref01_Ints.f k t505 t501).bind fun t508 => (if t508 = true then ((level_Up.f k t498 t501).bind fun t509 => ((withyref17_Up.f k t498 t501).bind fun t512 => ((withyref01_Words.f k t509 t512).bind fun t515 => (if t515 = true then ((level_Down.f k t498 t501).bind fun t516 => ((withyref17_Down.f k t498 t501).bind fun t519 => ((withylaw17_lists.f k t516 t519).bind fun t522 => (if t522 = true then ((level_Heights.f k t498 t497).bind fun t523 => ((withyref17_Heights.f k t498 t497).bind fun t526 => ((withylaw17_numbers.f k t523 t526).bind fun t529 => (if t529 = true then ((withylaw17_fixed.f k).bind fun t530 => (some t530)) else (none))))) else (none))))) else (none))))) else (none)))) else (none)))) = some r := H
 have A9 := Aside0.mk A90
 clear A90
 replace H := bM H
 obtain ⟨t501, A100, H⟩ := H
 replace H : ((level_Right.f k t498 t497).bind fun t504 => (if t504 = true then ((level_Group.f k t498 t497).bind fun t505 => ((withyref01_Ints.f k t505 t501).bind fun t508 => (if t508 = true then ((level_Up.f k t498 t501).bind fun t509 => ((withyref17_Up.f k t498 t501).bind fun t512 => ((withyref01_Words.f k t509 t512).bind fun t515 => (if t515 = true then ((level_Down.f k t498 t501).bind fun t516 => ((withyref17_Down.f k t498 t501).bind fun t519 => ((withylaw17_lists.f k t516 t519).bind fun t522 => (if t522 = true then ((level_Heights.f k t498 t497).bind fun t523 => ((withyref17_Heights.f k t498 t497).bind fun t526 => ((withylaw17_numbers.f k t523 t526).bind fun t529 => (if t529 = true then ((withylaw17_fixed.f k).bind fun t530 => (some t530)) else (none))))) else (none))))) else (none))))) else (none)))) else (none))) = some r := H
 have A10 := Aside0.mk A100
 clear A100
 replace H := bM H
 obtain ⟨t504, A110, H⟩ := H
 replace H : (if t504 = true then ((level_Group.f k t498 t497).bind fun t505 => ((withyref01_Ints.f k t505 t501).bind fun t508 => (if t508 = true then ((level_Up.f k t498 t501).bind fun t509 => ((withyref17_Up.f k t498 t501).bind fun t512 => ((withyref01_Words.f k t509 t512).bind fun t515 => (if t515 = true then ((level_Down.f k t498 t501).bind fun t516 => ((withyref17_Down.f k t498 t501).bind fun t519 => ((withylaw17_lists.f k t516 t519).bind fun t522 => (if t522 = true then ((level_Heights.f k t498 t497).bind fun t523 => ((withyref17_Heights.f k t498 t497).bind fun t526 => ((withylaw17_numbers.f k t523 t526).bind fun t529 => (if t529 = true then ((withylaw17_fixed.f k).bind fun t530 => (some t530)) else (none))))) else (none))))) else (none))))) else (none)))) else (none)) = some r := H
 have A11 := Aside0.mk A110
 clear A110
 by_cases c12 : t504 = true
 rotate_left
 ·replace c12 := Bool.eq_false_iff.mpr c12
  subst c12
  have H1 : (none) = some r := by rw [if_neg (show ¬ (false = true) by decide)] at H; exact H
  clear H
  have H := H1
  clear H1
  exact absurd H (by simp)
 
 subst c12
 have H1 : ((level_Group.f k t498 t497).bind fun t505 => ((withyref01_Ints.f k t505 t501).bind fun t508 => (if t508 = true then ((level_Up.f k t498 t501).bind fun t509 => ((withyref17_Up.f k t498 t501).bind fun t512 => ((withyref01_Words.f k t509 t512).bind fun t515 => (if t515 = true then ((level_Down.f k t498 t501).bind fun t516 => ((withyref17_Down.f k t498 t501).bind fun t519 => ((withylaw17_lists.f k t516 t519).bind fun t522 => (if t522 = true then ((level_Heights.f k t498 t497).bind fun t523 => ((withyref17_Heights.f k t498 t497).bind fun t526 => ((withylaw17_numbers.f k t523 t526).bind fun t529 => (if t529 = true then ((withylaw17_fixed.f k).bind fun t530 => (some t530)) else (none))))) else (none))))) else (none))))) else (none)))) = some r := by rw [if_pos rfl] at H; exact H
 clear H
 have H := H1
 clear H1
 replace H := bM H
 obtain ⟨t505, A130, H⟩ := H
 replace H : ((withyref01_Ints.f k t505 t501).bind fun t508 => (if t508 = true then ((level_Up.f k t498 t501).bind fun t509 => ((withyref17_Up.f k t498 t501).bind fun t512 => ((withyref01_Words.f k t509 t512).bind fun t515 => (if t515 = true then ((level_Down.f k t498 t501).bind fun t516 => ((withyref17_Down.f k t498 t501).bind fun t519 => ((withylaw17_lists.f k t516 t519).bind fun t522 => (if t522 = true then ((level_Heights.f k t498 t497).bind fun t523 => ((withyref17_Heights.f k t498 t497).bind fun t526 => ((withylaw17_numbers.f k t523 t526).bind fun t529 => (if t529 = true then ((withylaw17_fixed.f k).bind fun t530 => (some t530)) else (none))))) else (none))))) else (none))))) else (none))) = some r := H
 have A13 := Aside0.mk A130
 clear A130
 replace H := bM H
 obtain ⟨t508, A140, H⟩ := H
 replace H : (if t508 = true then ((level_Up.f k t498 t501).bind fun t509 => ((withyref17_Up.f k t498 t501).bind fun t512 => ((withyref01_Words.f k t509 t512).bind fun t515 => (if t515 = true then ((level_Down.f k t498 t501).bind fun t516 => ((withyref17_Down.f k t498 t501).bind fun t519 => ((withylaw17_lists.f k t516 t519).bind fun t522 => (if t522 = true then ((level_Heights.f k t498 t497).bind fun t523 => ((withyref17_Heights.f k t498 t497).bind fun t526 => ((withylaw17_numbers.f k t523 t526).bind fun t529 => (if t529 = true then ((withylaw17_fixed.f k).bind fun t530 => (some t530)) else (none))))) else (none))))) else (none))))) else (none)) = some r := H
 have A14 := Aside0.mk A140
 clear A140
 by_cases c15 : t508 = true
 rotate_left
 ·replace c15 := Bool.eq_false_iff.mpr c15
  subst c15
  have H1 : (none) = some r := by rw [if_neg (show ¬ (false = true) by decide)] at H; exact H
  clear H
  have H := H1
  clear H1
  exact absurd H (by simp)
 subst c15
 have H1 : ((level_Up.f k t498 t501).bind fun t509 => ((withyref17_Up.f k t498 t501).bind fun t512 => ((withyref01_Words.f k t509 t512).bind fun t515 => (if t515 = true then ((level_Down.f k t498 t501).bind fun t516 => ((withyref17_Down.f k t498 t501).bind fun t519 => ((withylaw17_lists.f k t516 t519).bind fun t522 => (if t522 = true then ((level_Heights.f k t498 t497).bind fun t523 => ((withyref17_Heights.f k t498 t497).bind fun t526 => ((withylaw17_numbers.f k t523 t526).bind fun t529 => (if t529 = true then ((withylaw17_fixed.f k).bind fun t530 => (some t530)) else (none))))) else (none))))) else (none))))) = some r := by rw [if_pos rfl] at H; exact H
 clear H
 have H := H1
 clear H1
 replace H := bM H
 obtain ⟨t509, A160, H⟩ := H
 replace H : ((withyref17_Up.f k t498 t501).bind fun t512 => ((withyref01_Words.f k t509 t512).bind fun t515 => (if t515 = true then ((level_Down.f k t498 t501).bind fun t516 => ((withyref17_Down.f k t498 t501).bind fun t519 => ((withylaw17_lists.f k t516 t519).bind fun t522 => (if t522 = true then ((level_Heights.f k t498 t497).bind fun t523 => ((withyref17_Heights.f k t498 t497).bind fun t526 => ((withylaw17_numbers.f k t523 t526).bind fun t529 => (if t529 = true then ((withylaw17_fixed.f k).bind fun t530 => (some t530)) else (none))))) else (none))))) else (none)))) = some r := H
 have A16 := Aside0.mk A160
 clear A160
 replace H := bM H
 obtain ⟨t512, A170, H⟩ := H
 replace H : ((withyref01_Words.f k t509 t512).bind fun t515 => (if t515 = true then ((level_Down.f k t498 t501).bind fun t516 => ((withyref17_Down.f k t498 t501).bind fun t519 => ((withylaw17_lists.f k t516 t519).bind fun t522 => (if t522 = true then ((level_Heights.f k t498 t497).bind fun t523 => ((withyref17_Heights.f k t498 t497).bind fun t526 => ((withylaw17_numbers.f k t523 t526).bind fun t529 => (if t529 = true then ((withylaw17_fixed.f k).bind fun t530 => (some t530)) else (none))))) else (none))))) else (none))) = some r := H
 have A17 := Aside0.mk A170
 clear A170
 replace H := bM H
 obtain ⟨t515, A180, H⟩ := H
 replace H : (if t515 = true then ((level_Down.f k t498 t501).bind fun t516 => ((withyref17_Down.f k t498 t501).bind fun t519 => ((withylaw17_lists.f k t516 t519).bind fun t522 => (if t522 = true then ((level_Heights.f k t498 t497).bind fun t523 => ((withyref17_Heights.f k t498 t497).bind fun t526 => ((withylaw17_numbers.f k t523 t526).bind fun t529 => (if t529 = true then ((withylaw17_fixed.f k).bind fun t530 => (some t530)) else (none))))) else (none))))) else (none)) = some r := H
 have A18 := Aside0.mk A180
 clear A180
 by_cases c19 : t515 = true
 rotate_left
 ·replace c19 := Bool.eq_false_iff.mpr c19
  subst c19
  have H1 : (none) = some r := by rw [if_neg (show ¬ (false = true) by decide)] at H; exact H
  clear H
  have H := H1
  clear H1
  exact absurd H (by simp)
 subst c19
 have H1 : ((level_Down.f k t498 t501).bind fun t516 => ((withyref17_Down.f k t498 t501).bind fun t519 => ((withylaw17_lists.f k t516 t519).bind fun t522 => (if t522 = true then ((level_Heights.f k t498 t497).bind fun t523 => ((withyref17_Heights.f k t498 t497).bind fun t526 => ((withylaw17_numbers.f k t523 t526).bind fun t529 => (if t529 = true then ((withylaw17_fixed.f k).bind fun t530 => (some t530)) else (none))))) else (none))))) = some r := by rw [if_pos rfl] at H; exact H
 clear H
 have H := H1
 clear H1
 replace H := bM H
 obtain ⟨t516, A200, H⟩ := H
 replace H : ((withyref17_Down.f k t498 t501).bind fun t519 => ((withylaw17_lists.f k t516 t519).bind fun t522 => (if t522 = true then ((level_Heights.f k t498 t497).bind fun t523 => ((withyref17_Heights.f k t498 t497).bind fun t526 => ((withylaw17_numbers.f k t523 t526).bind fun t529 => (if t529 = true then ((withylaw17_fixed.f k).bind fun t530 => (some t530)) else (none))))) else (none)))) = some r := H
 have A20 := Aside0.mk A200
 clear A200
 replace H := bM H
 obtain ⟨t519, A210, H⟩ := H
 replace H : ((withylaw17_lists.f k t516 t519).bind fun t522 => (if t522 = true then ((level_Heights.f k t498 t497).bind fun t523 => ((withyref17_Heights.f k t498 t497).bind fun t526 => ((withylaw17_numbers.f k t523 t526).bind fun t529 => (if t529 = true then ((withylaw17_fixed.f k).bind fun t530 => (some t530)) else (none))))) else (none))) = some r := H
 have A21 := Aside0.mk A210
 clear A210
 replace H := bM H
 obtain ⟨t522, A220, H⟩ := H
 replace H : (if t522 = true then ((level_Heights.f k t498 t497).bind fun t523 => ((withyref17_Heights.f k t498 t497).bind fun t526 => ((withylaw17_numbers.f k t523 t526).bind fun t529 => (if t529 = true then ((withylaw17_fixed.f k).bind fun t530 => (some t530)) else (none))))) else (none)) = some r := H
 have A22 := Aside0.mk A220
 clear A220
 by_cases c23 : t522 = true
 rotate_left
 ·replace c23 := Bool.eq_false_iff.mpr c23
  subst c23
  have H1 : (none) = some r := by rw [if_neg (show ¬ (false = true) by decide)] at H; exact H
  clear H
  have H := H1
  clear H1
  exact absurd H (by simp)
 subst c23
 have H1 : ((level_Heights.f k t498 t497).bind fun t523 => ((withyref17_Heights.f k t498 t497).bind fun t526 => ((withylaw17_numbers.f k t523 t526).bind fun t529 => (if t529 = true then ((withylaw17_fixed.f k).bind fun t530 => (some t530)) else (none))))) = some r := by rw [if_pos rfl] at H; exact H
 clear H
 have H := H1
 clear H1
 replace H := bM H
 obtain ⟨t523, A240, H⟩ := H
 replace H : ((withyref17_Heights.f k t498 t497).bind fun t526 => ((withylaw17_numbers.f k t523 t526).bind fun t529 => (if t529 = true then ((withylaw17_fixed.f k).bind fun t530 => (some t530)) else (none)))) = some r := H
 have A24 := Aside0.mk A240
 clear A240
 replace H := bM H
 obtain ⟨t526, A250, H⟩ := H
 replace H : ((withylaw17_numbers.f k t523 t526).bind fun t529 => (if t529 = true then ((withylaw17_fixed.f k).bind fun t530 => (some t530)) else (none))) = some r := H
 have A25 := Aside0.mk A250
 clear A250
 replace H := bM H
 obtain ⟨t529, A260, H⟩ := H
 replace H : (if t529 = true then ((withylaw17_fixed.f k).bind fun t530 => (some t530)) else (none)) = some r := H
 have A26 := Aside0.mk A260
 clear A260
 by_cases c27 : t529 = true
 rotate_left
 ·replace c27 := Bool.eq_false_iff.mpr c27
  subst c27
  have H1 : (none) = some r := by rw [if_neg (show ¬ (false = true) by decide)] at H; exact H
  clear H
  have H := H1
  clear H1
  exact absurd H (by simp)
 subst c27
 have H1 : ((withylaw17_fixed.f k).bind fun t530 => (some t530)) = some r := by rw [if_pos rfl] at H; exact H
 clear H
 have H := H1
 clear H1
 replace H := bM H
 obtain ⟨t530, A280, H⟩ := H
 replace H : (some t530) = some r := H
 have A28 := Aside0.mk A280
 clear A280
 obtain rfl := Option.some.inj H
 go_enter Try.func3, Try.ntmps3
 (try simp only [List.append_eq, List.cons_append, List.nil_append])
 go_wp2_with (first | ((with_reducible refine gate_callee (f := 9) rfl ?_); refine goesL_ (some 11) rfl rfl Try.func9 (by kernel_rfl) rfl #[.slice A0 l0.length c0] rfl aO ?_; (with_reducible refine (withylaw17_Cut.calls k _ _ l0 t492 _ ?side1 ?side2 A4.out).mono ?_); (case side1 => repeat (first | exact HR0.out | (with_reducible refine Kd.C_alloc ?_ _) | (with_reducible refine Kd.C_drewN ?_ _) | (with_reducible refine Kd.C_drew ?_))); (case side2 => exact HC0.out); rintro e w29 ⟨v493, rfl, ho0, hb⟩; refine ⟨_, rfl, ?_⟩; have HO494 := as_ (Kd.R_lower ho0 (below_size bA)); replace HB := as_ (below_step bA hb); (try clear hb); (try clear hb2); (try clear hk); (try clear hi); (try clear ho0); obtain ⟨Ao30, co30, eo30⟩ := Kd.R_slice HO494.out; subst eo30) | ((with_reducible refine gate_callee (f := 10) rfl ?_); refine goesL_ (some 14) rfl rfl Try.func10 (by kernel_rfl) rfl #[.slice Ao30 t492.length co30, .int .i64 a1] rfl aO ?_; (with_reducible refine (level_Right.calls k _ _ t492 a1 t495 _ ?side1 ?side2 A5.out).mono ?_); (case side1 => repeat (first | exact (Kd.R_reads' HO494.out).2.2 | (with_reducible refine Kd.C_alloc ?_ _) | (with_reducible refine Kd.C_drewN ?_ _) | (with_reducible refine Kd.C_drew ?_))); (case side2 => exact (Kd.R_reads' HO494.out).2.1); rintro e w31 ⟨rfl, hb⟩; refine ⟨_, rfl, ?_⟩; replace HO494 := as_ (Kd.R_below (by (with_reducible repeat (first | apply Kd.R_alloc | apply Kd.R_drewN | apply Kd.R_drew)); exact HO494.out) hb); replace HB := as_ (below_step bA hb); (try clear hb); (try clear hb2); (try clear hk); (try clear hi)) | ((with_reducible refine gate_callee (f := 11) rfl ?_); refine goesL_ (some 17) rfl rfl Try.func11 (by kernel_rfl) rfl #[.slice Ao30 t492.length co30, .int .i64 a1] rfl aO ?_; (with_reducible refine (withyref17_Right.calls k _ _ t492 a1 t496 _ ?side1 ?side2 A6.out).mono ?_); (case side1 => repeat (first | exact (Kd.R_reads' HO494.out).2.2 | (with_reducible refine Kd.C_alloc ?_ _) | (with_reducible refine Kd.C_drewN ?_ _) | (with_reducible refine Kd.C_drew ?_))); (case side2 => exact (Kd.R_reads' HO494.out).2.1); rintro e w' ⟨rfl, ⟨nd, rfl⟩⟩; refine ⟨_, rfl, ?_⟩) | ((with_reducible refine gate_callee (f := 12) rfl ?_); refine goesL_ (some 20) rfl rfl Try.func12 (by kernel_rfl) rfl #[.int .i64 a2] rfl aO ?_; (with_reducible refine (withylaw16_Size.calls a2 t497 _ A8.out).mono ?_); rintro e w' ⟨rfl, ⟨nd, rfl⟩⟩; refine ⟨_, rfl, ?_⟩) | ((with_reducible refine gate_callee (f := 13) rfl ?_); refine goesL_ (some 23) rfl rfl Try.func13 (by kernel_rfl) rfl #[.slice A0 l0.length c0, .int .i64 t497] rfl aO ?_; (with_reducible refine (withylaw17_Rise.calls k _ _ l0 t497 t498 _ ?side1 ?side2 A9.out).mono ?_); (case side1 => repeat (first | exact (Kd.C_below HR0.out bA) | (with_reducible refine Kd.C_alloc ?_ _) | (with_reducible refine Kd.C_drewN ?_ _) | (with_reducible refine Kd.C_drew ?_))); (case side2 => exact HC0.out); rintro e w32 ⟨v499, rfl, ho0, hb⟩; refine ⟨_, rfl, ?_⟩; have HO500 := as_ (Kd.R_lower (Kd.R_new' ho0 (Kd.R_lt (by (with_reducible repeat (first | apply Kd.R_alloc | apply Kd.R_drewN | apply Kd.R_drew)); exact HO494.out))) (below_size bA)); replace HO494 := as_ (Kd.R_elder' (by (with_reducible repeat (first | apply Kd.R_alloc | apply Kd.R_drewN | apply Kd.R_drew)); exact HO494.out) (Kd.R_base ho0) hb); replace HB := as_ (below_step bA hb); (try clear hb); (try clear hb2); (try clear hk); (try clear hi); (try clear ho0); obtain ⟨Ao33, co33, eo33⟩ := Kd.R_slice HO500.out; subst eo33) | ((with_reducible refine gate_callee (f := 14) rfl ?_); refine goesL_ (some 26) rfl rfl Try.func14 (by kernel_rfl) rfl #[.slice Ao33 t498.length co33, .int .i64 t497] rfl aO ?_; (with_reducible refine (withyref17_Group.calls k _ _ t498 t497 t501 _ ?side1 ?side2 A10.out).mono ?_); (case side1 => repeat (first | exact (Kd.R_reads' HO500.out).2.2 | (with_reducible refine Kd.C_alloc ?_ _) | (with_reducible refine Kd.C_drewN ?_ _) | (with_reducible refine Kd.C_drew ?_))); (case side2 => exact (Kd.R_reads' HO500.out).2.1); rintro e w34 ⟨v502, rfl, ho0, hb⟩; refine ⟨_, rfl, ?_⟩; have HO503 := as_ (Kd.R_lower ho0 (below_size bA)); replace HO494 := as_ (Kd.R_below (by (with_reducible repeat (first | apply Kd.R_alloc | apply Kd.R_drewN | apply Kd.R_drew)); exact HO494.out) hb); replace HO500 := as_ (Kd.R_below (by (with_reducible repeat (first | apply Kd.R_alloc | apply Kd.R_drewN | apply Kd.R_drew)); exact HO500.out) hb); replace HB := as_ (below_step bA hb); (try clear hb); (try clear hb2); (try clear hk); (try clear hi); (try clear ho0)) | ((with_reducible refine gate_callee (f := 10) rfl ?_); refine goesL_ (some 29) rfl rfl Try.func10 (by kernel_rfl) rfl #[.slice Ao33 t498.length co33, .int .i64 t497] rfl aO ?_; (with_reducible refine (level_Right.calls k _ _ t498 t497 true _ ?side1 ?side2 A11.out).mono ?_); (case side1 => repeat (first | exact (Kd.R_reads' HO500.out).2.2 | (with_reducible refine Kd.C_alloc ?_ _) | (with_reducible refine Kd.C_drewN ?_ _) | (with_reducible refine Kd.C_drew ?_))); (case side2 => exact (Kd.R_reads' HO500.out).2.1); rintro e w35 ⟨rfl, hb⟩; refine ⟨_, rfl, ?_⟩; replace HO494 := as_ (Kd.R_below (by (with_reducible repeat (first | apply Kd.R_alloc | apply Kd.R_drewN | apply Kd.R_drew)); exact HO494.out) hb); replace HO500 := as_ (Kd.R_below (by (with_reducible repeat (first | apply Kd.R_alloc | apply Kd.R_drewN | apply Kd.R_drew)); exact HO500.out) hb); replace HO503 := as_ (Kd.R_below (by (with_reducible repeat (first | apply Kd.R_alloc | apply Kd.R_drewN | apply Kd.R_drew)); exact HO503.out) hb); replace HB := as_ (below_step bA hb); (try clear hb); (try clear hb2); (try clear hk); (try clear hi)) | (go_at_call 16; (with_reducible refine (level_Group.calls k _ _ t498 t497 t505 _ ?side1 ?side2 A13.out).mono ?_); (case side1 => repeat (first | exact (Kd.R_reads' HO500.out).2.2 | (with_reducible refine Kd.C_alloc ?_ _) | (with_reducible refine Kd.C_drewN ?_ _) | (with_reducible refine Kd.C_drew ?_))); (case side2 => exact (Kd.R_reads' HO500.out).2.1); rintro e w36 ⟨v506, rfl, ho0, hb⟩; have HO507 := as_ (Kd.R_lower (Kd.R_new' ho0 (Kd.R_lt (by (with_reducible repeat (first | apply Kd.R_alloc | apply Kd.R_drewN | apply Kd.R_drew)); exact HO503.out))) (below_size bA)); replace HO494 := as_ (Kd.R_below (by (with_reducible repeat (first | apply Kd.R_alloc | apply Kd.R_drewN | apply Kd.R_drew)); exact HO494.out) hb); replace HO500 := as_ (Kd.R_below (by (with_reducible repeat (first | apply Kd.R_alloc | apply Kd.R_drewN | apply Kd.R_drew)); exact HO500.out) hb); replace HO503 := as_ (Kd.R_elder' (by (with_reducible repeat (first | apply Kd.R_alloc | apply Kd.R_drewN | apply Kd.R_drew)); exact HO503.out) (Kd.R_base ho0) hb); replace HB := as_ (below_step bA hb); (try clear hb); (try clear hb2); (try clear hk); (try clear hi); (try clear ho0); obtain ⟨Ao37, co37, eo37⟩ := Kd.R_slice HO507.out; subst eo37; obtain ⟨Ao38, co38, eo38⟩ := Kd.R_slice HO503.out; subst eo38) | (go_at_call 15; (with_reducible refine (withyref01_Ints.calls k _ _ t505 _ _ t501 true _ ?side1 ?side2 ?side3 ?side4 A14.out).mono ?_); (case side1 => repeat (first | exact (Kd.R_reads' HO507.out).2.2 | (with_reducible refine Kd.C_alloc ?_ _) | (with_reducible refine Kd.C_drewN ?_ _) | (with_reducible refine Kd.C_drew ?_))); (case side2 => exact (Kd.R_reads' HO507.out).2.1); (case side3 => repeat (first | exact (Kd.R_reads' HO503.out).2.2 | (with_reducible refine Kd.C_alloc ?_ _) | (with_reducible refine Kd.C_drewN ?_ _) | (with_reducible refine Kd.C_drew ?_))); (case side4 => exact (Kd.R_reads' HO503.out).2.1); rintro e w' ⟨rfl, ⟨nd, rfl⟩⟩) | (go_at_call 18; (with_reducible refine (level_Up.calls k _ _ t498 _ _ t501 t509 _ ?side1 ?side2 ?side3 ?side4 A16.out).mono ?_); (case side1 => repeat (first | exact (Kd.R_reads' HO500.out).2.2 | (with_reducible refine Kd.C_alloc ?_ _) | (with_reducible refine Kd.C_drewN ?_ _) | (with_reducible refine Kd.C_drew ?_))); (case side2 => exact (Kd.R_reads' HO500.out).2.1); (case side3 => repeat (first | exact (Kd.R_reads' HO503.out).2.2 | (with_reducible refine Kd.C_alloc ?_ _) | (with_reducible refine Kd.C_drewN ?_ _) | (with_reducible refine Kd.C_drew ?_))); (case side4 => exact (Kd.R_reads' HO503.out).2.1); rintro e w39 ⟨v510, rfl, ho0, hb⟩; have HO511 := as_ (Kd.R_lower (Kd.R_new' (Kd.R_new' ho0 (Kd.R_lt (by (with_reducible repeat (first | apply Kd.R_alloc | apply Kd.R_drewN | apply Kd.R_drew)); exact HO494.out))) (Kd.R_lt (by (with_reducible repeat (first | apply Kd.R_alloc | apply Kd.R_drewN | apply Kd.R_drew)); exact HO500.out))) (below_size bA)); replace HO494 := as_ (Kd.R_elder' (by (with_reducible repeat (first | apply Kd.R_alloc | apply Kd.R_drewN | apply Kd.R_drew)); exact HO494.out) (Kd.R_base ho0) hb); replace HO500 := as_ (Kd.R_elder' (by (with_reducible repeat (first | apply Kd.R_alloc | apply Kd.R_drewN | apply Kd.R_drew)); exact HO500.out) (Kd.R_base ho0) hb); replace HO503 := as_ (Kd.R_below (by (with_reducible repeat (first | apply Kd.R_alloc | apply Kd.R_drewN | apply Kd.R_drew)); exact HO503.out) hb); replace HO507 := as_ (Kd.R_below (by (with_reducible repeat (first | apply Kd.R_alloc | apply Kd.R_drewN | apply Kd.R_drew)); exact HO507.out) hb); replace HB := as_ (below_step bA hb); (try clear hb); (try clear hb2); (try clear hk); (try clear hi); (try clear ho0)) | (go_at_call 19; (with_reducible refine (withyref17_Up.calls k _ _ t498 _ _ t501 t512 _ ?side1 ?side2 ?side3 ?side4 A17.out).mono ?_); (case side1 => repeat (first | exact (Kd.R_reads' HO500.out).2.2 | (with_reducible refine Kd.C_alloc ?_ _) | (with_reducible refine Kd.C_drewN ?_ _) | (with_reducible refine Kd.C_drew ?_))); (case side2 => exact (Kd.R_reads' HO500.out).2.1); (case side3 => repeat (first | exact (Kd.R_reads' HO503.out).2.2 | (with_reducible refine Kd.C_alloc ?_ _) | (with_reducible refine Kd.C_drewN ?_ _) | (with_reducible refine Kd.C_drew ?_))); (case side4 => exact (Kd.R_reads' HO503.out).2.1); rintro e w40 ⟨v513, rfl, ho0, hb⟩; have HO514 := as_ (Kd.R_lower (Kd.R_new' (Kd.R_new' (Kd.R_new' ho0 (Kd.R_lt (by (with_reducible repeat (first | apply Kd.R_alloc | apply Kd.R_drewN | apply Kd.R_drew)); exact HO494.out))) (Kd.R_lt (by (with_reducible repeat (first | apply Kd.R_alloc | apply Kd.R_drewN | apply Kd.R_drew)); exact HO500.out))) (Kd.R_lt (by (with_reducible repeat (first | apply Kd.R_alloc | apply Kd.R_drewN | apply Kd.R_drew)); exact HO511.out))) (below_size bA)); replace HO494 := as_ (Kd.R_elder' (by (with_reducible repeat (first | apply Kd.R_alloc | apply Kd.R_drewN | apply Kd.R_drew)); exact HO494.out) (Kd.R_base ho0) hb); replace HO500 := as_ (Kd.R_elder' (by (with_reducible repeat (first | apply Kd.R_alloc | apply Kd.R_drewN | apply Kd.R_drew)); exact HO500.out) (Kd.R_base ho0) hb); replace HO503 := as_ (Kd.R_below (by (with_reducible repeat (first | apply Kd.R_alloc | apply Kd.R_drewN | apply Kd.R_drew)); exact HO503.out) hb); replace HO507 := as_ (Kd.R_below (by (with_reducible repeat (first | apply Kd.R_alloc | apply Kd.R_drewN | apply Kd.R_drew)); exact HO507.out) hb); replace HO511 := as_ (Kd.R_elder' (by (with_reducible repeat (first | apply Kd.R_alloc | apply Kd.R_drewN | apply Kd.R_drew)); exact HO511.out) (Kd.R_base ho0) hb); replace HB := as_ (below_step bA hb); (try clear hb); (try clear hb2); (try clear hk); (try clear hi); (try clear ho0); obtain ⟨Ao41, co41, eo41⟩ := Kd.R_slice HO511.out; subst eo41; obtain ⟨Ao42, co42, eo42⟩ := Kd.R_slice HO514.out; subst eo42) | (go_at_call 17; (with_reducible refine (withyref01_Words.calls k _ _ t509 _ _ t512 true _ ?side1 ?side2 ?side3 ?side4 A18.out).mono ?_); (case side1 => repeat (first | exact (Kd.R_reads' HO511.out).2.2 | (with_reducible refine Kd.C_alloc ?_ _) | (with_reducible refine Kd.C_drewN ?_ _) | (with_reducible refine Kd.C_drew ?_))); (case side2 => exact (Kd.R_reads' HO511.out).2.1); (case side3 => repeat (first | exact (Kd.R_reads' HO514.out).2.2 | (with_reducible refine Kd.C_alloc ?_ _) | (with_reducible refine Kd.C_drewN ?_ _) | (with_reducible refine Kd.C_drew ?_))); (case side4 => exact (Kd.R_reads' HO514.out).2.1); rintro e w' ⟨rfl, ⟨nd, rfl⟩⟩) | (go_at_call 21; (with_reducible refine (level_Down.calls k _ _ t498 _ _ t501 t516 _ ?side1 ?side2 ?side3 ?side4 A20.out).mono ?_); (case side1 => repeat (first | exact (Kd.R_reads' HO500.out).2.2 | (with_reducible refine Kd.C_alloc ?_ _) | (with_reducible refine Kd.C_drewN ?_ _) | (with_reducible refine Kd.C_drew ?_))); (case side2 => exact (Kd.R_reads' HO500.out).2.1); (case side3 => repeat (first | exact (Kd.R_reads' HO503.out).2.2 | (with_reducible refine Kd.C_alloc ?_ _) | (with_reducible refine Kd.C_drewN ?_ _) | (with_reducible refine Kd.C_drew ?_))); (case side4 => exact (Kd.R_reads' HO503.out).2.1); rintro e w43 ⟨v517, rfl, ho0, hb⟩; have HO518 := as_ (Kd.S_lower (Kd.S_new' (Kd.S_new' (Kd.S_new' (Kd.S_new' ho0 (Kd.R_lt (by (with_reducible repeat (first | apply Kd.R_alloc | apply Kd.R_drewN | apply Kd.R_drew)); exact HO494.out))) (Kd.R_lt (by (with_reducible repeat (first | apply Kd.R_alloc | apply Kd.R_drewN | apply Kd.R_drew)); exact HO500.out))) (Kd.R_lt (by (with_reducible repeat (first | apply Kd.R_alloc | apply Kd.R_drewN | apply Kd.R_drew)); exact HO511.out))) (Kd.R_lt (by (with_reducible repeat (first | apply Kd.R_alloc | apply Kd.R_drewN | apply Kd.R_drew)); exact HO514.out))) (below_size bA)); replace HO494 := as_ (Kd.R_below (by (with_reducible repeat (first | apply Kd.R_alloc | apply Kd.R_drewN | apply Kd.R_drew)); exact HO494.out) hb); replace HO500 := as_ (Kd.R_below (by (with_reducible repeat (first | apply Kd.R_alloc | apply Kd.R_drewN | apply Kd.R_drew)); exact HO500.out) hb); replace HO503 := as_ (Kd.R_below (by (with_reducible repeat (first | apply Kd.R_alloc | apply Kd.R_drewN | apply Kd.R_drew)); exact HO503.out) hb); replace HO507 := as_ (Kd.R_below (by (with_reducible repeat (first | apply Kd.R_alloc | apply Kd.R_drewN | apply Kd.R_drew)); exact HO507.out) hb); replace HO511 := as_ (Kd.R_below (by (with_reducible repeat (first | apply Kd.R_alloc | apply Kd.R_drewN | apply Kd.R_drew)); exact HO511.out) hb); replace HO514 := as_ (Kd.R_below (by (with_reducible repeat (first | apply Kd.R_alloc | apply Kd.R_drewN | apply Kd.R_drew)); exact HO514.out) hb); replace HB := as_ (below_step bA hb); (try clear hb); (try clear hb2); (try clear hk); (try clear hi); (try clear ho0)) | (go_at_call 22; (with_reducible refine (withyref17_Down.calls k _ _ t498 _ _ t501 t519 _ ?side1 ?side2 ?side3 ?side4 A21.out).mono ?_); (case side1 => repeat (first | exact (Kd.R_reads' HO500.out).2.2 | (with_reducible refine Kd.C_alloc ?_ _) | (with_reducible refine Kd.C_drewN ?_ _) | (with_reducible refine Kd.C_drew ?_))); (case side2 => exact (Kd.R_reads' HO500.out).2.1); (case side3 => repeat (first | exact (Kd.R_reads' HO503.out).2.2 | (with_reducible refine Kd.C_alloc ?_ _) | (with_reducible refine Kd.C_drewN ?_ _) | (with_reducible refine Kd.C_drew ?_))); (case side4 => exact (Kd.R_reads' HO503.out).2.1); rintro e w44 ⟨v520, rfl, ho0, hb⟩; have HO521 := as_ (Kd.S_lower (Kd.S_new' (Kd.S_new' (Kd.S_new' (Kd.S_new' (Kd.S_new' ho0 (Kd.R_lt (by (with_reducible repeat (first | apply Kd.R_alloc | apply Kd.R_drewN | apply Kd.R_drew)); exact HO494.out))) (Kd.R_lt (by (with_reducible repeat (first | apply Kd.R_alloc | apply Kd.R_drewN | apply Kd.R_drew)); exact HO500.out))) (Kd.R_lt (by (with_reducible repeat (first | apply Kd.R_alloc | apply Kd.R_drewN | apply Kd.R_drew)); exact HO511.out))) (Kd.R_lt (by (with_reducible repeat (first | apply Kd.R_alloc | apply Kd.R_drewN | apply Kd.R_drew)); exact HO514.out))) (Kd.S_lt (by (with_reducible repeat (first | apply Kd.S_alloc | apply Kd.S_drewN | apply Kd.S_drew)); exact HO518.out))) (below_size bA)); replace HO494 := as_ (Kd.R_below (by (with_reducible repeat (first | apply Kd.R_alloc | apply Kd.R_drewN | apply Kd.R_drew)); exact HO494.out) hb); replace HO500 := as_ (Kd.R_below (by (with_reducible repeat (first | apply Kd.R_alloc | apply Kd.R_drewN | apply Kd.R_drew)); exact HO500.out) hb); replace HO503 := as_ (Kd.R_below (by (with_reducible repeat (first | apply Kd.R_alloc | apply Kd.R_drewN | apply Kd.R_drew)); exact HO503.out) hb); replace HO507 := as_ (Kd.R_below (by (with_reducible repeat (first | apply Kd.R_alloc | apply Kd.R_drewN | apply Kd.R_drew)); exact HO507.out) hb); replace HO511 := as_ (Kd.R_below (by (with_reducible repeat (first | apply Kd.R_alloc | apply Kd.R_drewN | apply Kd.R_drew)); exact HO511.out) hb); replace HO514 := as_ (Kd.R_below (by (with_reducible repeat (first | apply Kd.R_alloc | apply Kd.R_drewN | apply Kd.R_drew)); exact HO514.out) hb); replace HO518 := as_ (Kd.S_elder' (by (with_reducible repeat (first | apply Kd.S_alloc | apply Kd.S_drewN | apply Kd.S_drew)); exact HO518.out) (Kd.S_base ho0) hb); replace HB := as_ (below_step bA hb); (try clear hb); (try clear hb2); (try clear hk); (try clear hi); (try clear ho0); obtain ⟨Ao45, co45, eo45⟩ := Kd.S_slice HO518.out; subst eo45; obtain ⟨Ao46, co46, eo46⟩ := Kd.S_slice HO521.out; subst eo46) | (go_at_call 20; (with_reducible refine (withylaw17_lists.calls k _ _ t516 _ _ t519 true _ ?side1 ?side2 ?side3 ?side4 A22.out).mono ?_); (case side1 => repeat (first | exact (Kd.S_reads' HO518.out).2.2 | (with_reducible refine Kd.C_alloc ?_ _) | (with_reducible refine Kd.C_drewN ?_ _) | (with_reducible refine Kd.C_drew ?_))); (case side2 => exact (Kd.S_reads' HO518.out).2.1); (case side3 => repeat (first | exact (Kd.S_reads' HO521.out).2.2 | (with_reducible refine Kd.C_alloc ?_ _) | (with_reducible refine Kd.C_drewN ?_ _) | (with_reducible refine Kd.C_drew ?_))); (case side4 => exact (Kd.S_reads' HO521.out).2.1); rintro e w' ⟨rfl, ⟨nd, rfl⟩⟩) | (go_at_call 24; (with_reducible refine (level_Heights.calls k _ _ t498 t497 t523 _ ?side1 ?side2 A24.out).mono ?_); (case side1 => repeat (first | exact (Kd.R_reads' HO500.out).2.2 | (with_reducible refine Kd.C_alloc ?_ _) | (with_reducible refine Kd.C_drewN ?_ _) | (with_reducible refine Kd.C_drew ?_))); (case side2 => exact (Kd.R_reads' HO500.out).2.1); rintro e w47 ⟨v524, rfl, ho0, hb⟩; have HO525 := as_ (Kd.S_lower (Kd.S_new' (Kd.S_new' ho0 (Kd.R_lt (by (with_reducible repeat (first | apply Kd.R_alloc | apply Kd.R_drewN | apply Kd.R_drew)); exact HO503.out))) (Kd.R_lt (by (with_reducible repeat (first | apply Kd.R_alloc | apply Kd.R_drewN | apply Kd.R_drew)); exact HO507.out))) (below_size bA)); replace HO494 := as_ (Kd.R_below (by (with_reducible repeat (first | apply Kd.R_alloc | apply Kd.R_drewN | apply Kd.R_drew)); exact HO494.out) hb); replace HO500 := as_ (Kd.R_below (by (with_reducible repeat (first | apply Kd.R_alloc | apply Kd.R_drewN | apply Kd.R_drew)); exact HO500.out) hb); replace HO503 := as_ (Kd.R_below (by (with_reducible repeat (first | apply Kd.R_alloc | apply Kd.R_drewN | apply Kd.R_drew)); exact HO503.out) hb); replace HO507 := as_ (Kd.R_below (by (with_reducible repeat (first | apply Kd.R_alloc | apply Kd.R_drewN | apply Kd.R_drew)); exact HO507.out) hb); replace HO511 := as_ (Kd.R_below (by (with_reducible repeat (first | apply Kd.R_alloc | apply Kd.R_drewN | apply Kd.R_drew)); exact HO511.out) hb); replace HO514 := as_ (Kd.R_below (by (with_reducible repeat (first | apply Kd.R_alloc | apply Kd.R_drewN | apply Kd.R_drew)); exact HO514.out) hb); replace HO518 := as_ (Kd.S_below (by (with_reducible repeat (first | apply Kd.S_alloc | apply Kd.S_drewN | apply Kd.S_drew)); exact HO518.out) hb); replace HO521 := as_ (Kd.S_below (by (with_reducible repeat (first | apply Kd.S_alloc | apply Kd.S_drewN | apply Kd.S_drew)); exact HO521.out) hb); replace HB := as_ (below_step bA hb); (try clear hb); (try clear hb2); (try clear hk); (try clear hi); (try clear ho0)) | (go_at_call 25; (with_reducible refine (withyref17_Heights.calls k (fun k_ => some k_ = (.slice Ao33 t498.length co33 : Value).ownBlock) _ _ t498 t497 t526 _ ?side1 A25.out).mono ?_); (case side1 => exact Kd.R_V (Kd.R_tight rfl (Kd.R_apart' (Kd.R_apart' (Kd.R_apart' (Kd.R_apart' (Kd.R_apart' (HO500.out) (Kd.R_typed HO503.out) (by decide)) (Kd.R_typed HO507.out) (by decide)) (Kd.S_typed HO518.out) (by decide)) (Kd.S_typed HO521.out) (by decide)) (Kd.S_typed HO525.out) (by decide)))); rintro e w48 ⟨v527, rfl, ho0, hb⟩; have HO528 := as_ (Kd.S_lower (Kd.S_new' (Kd.S_new' (Kd.S_new' (Kd.S_mono (ok' := fun k_ => True) ho0 (fun _ hk_ => trivial)) (Kd.R_lt (by (with_reducible repeat (first | apply Kd.R_alloc | apply Kd.R_drewN | apply Kd.R_drew)); exact HO503.out))) (Kd.R_lt (by (with_reducible repeat (first | apply Kd.R_alloc | apply Kd.R_drewN | apply Kd.R_drew)); exact HO507.out))) (Kd.S_lt (by (with_reducible repeat (first | apply Kd.S_alloc | apply Kd.S_drewN | apply Kd.S_drew)); exact HO525.out))) (below_size bA)); replace HO494 := as_ (Kd.R_below (by (with_reducible repeat (first | apply Kd.R_alloc | apply Kd.R_drewN | apply Kd.R_drew)); exact HO494.out) hb); replace HO500 := as_ (Kd.R_below (by (with_reducible repeat (first | apply Kd.R_alloc | apply Kd.R_drewN | apply Kd.R_drew)); exact HO500.out) hb); replace HO503 := as_ (Kd.R_below (by (with_reducible repeat (first | apply Kd.R_alloc | apply Kd.R_drewN | apply Kd.R_drew)); exact HO503.out) hb); replace HO507 := as_ (Kd.R_below (by (with_reducible repeat (first | apply Kd.R_alloc | apply Kd.R_drewN | apply Kd.R_drew)); exact HO507.out) hb); replace HO511 := as_ (Kd.R_below (by (with_reducible repeat (first | apply Kd.R_alloc | apply Kd.R_drewN | apply Kd.R_drew)); exact HO511.out) hb); replace HO514 := as_ (Kd.R_below (by (with_reducible repeat (first | apply Kd.R_alloc | apply Kd.R_drewN | apply Kd.R_drew)); exact HO514.out) hb); replace HO518 := as_ (Kd.S_below (by (with_reducible repeat (first | apply Kd.S_alloc | apply Kd.S_drewN | apply Kd.S_drew)); exact HO518.out) hb); replace HO521 := as_ (Kd.S_below (by (with_reducible repeat (first | apply Kd.S_alloc | apply Kd.S_drewN | apply Kd.S_drew)); exact HO521.out) hb); replace HO525 := as_ (Kd.S_elder' (by (with_reducible repeat (first | apply Kd.S_alloc | apply Kd.S_drewN | apply Kd.S_drew)); exact HO525.out) (Kd.S_base ho0) hb); replace HB := as_ (below_step bA hb); (try clear hb); (try clear hb2); (try clear hk); (try clear hi); (try clear ho0); obtain ⟨Ao49, co49, eo49⟩ := Kd.S_slice HO525.out; subst eo49; obtain ⟨Ao50, co50, eo50⟩ := Kd.S_slice HO528.out; subst eo50) | (go_at_call 23; (with_reducible refine (withylaw17_numbers.calls k _ _ t523 _ _ t526 true _ ?side1 ?side2 ?side3 ?side4 A26.out).mono ?_); (case side1 => repeat (first | exact (Kd.S_reads' HO525.out).2.2 | (with_reducible refine Kd.C_alloc ?_ _) | (with_reducible refine Kd.C_drewN ?_ _) | (with_reducible refine Kd.C_drew ?_))); (case side2 => exact (Kd.S_reads' HO525.out).2.1); (case side3 => repeat (first | exact (Kd.S_reads' HO528.out).2.2 | (with_reducible refine Kd.C_alloc ?_ _) | (with_reducible refine Kd.C_drewN ?_ _) | (with_reducible refine Kd.C_drew ?_))); (case side4 => exact (Kd.S_reads' HO528.out).2.1); rintro e w' ⟨rfl, ⟨nd, rfl⟩⟩) | (go_at_call 26; (with_reducible refine (withylaw17_fixed.calls k  t530 _ A28.out).mono ?_); rintro e w51 ⟨rfl, hb⟩; replace HO494 := as_ (Kd.R_below (by (with_reducible repeat (first | apply Kd.R_alloc | apply Kd.R_drewN | apply Kd.R_drew)); exact HO494.out) hb); replace HO500 := as_ (Kd.R_below (by (with_reducible repeat (first | apply Kd.R_alloc | apply Kd.R_drewN | apply Kd.R_drew)); exact HO500.out) hb); replace HO503 := as_ (Kd.R_below (by (with_reducible repeat (first | apply Kd.R_alloc | apply Kd.R_drewN | apply Kd.R_drew)); exact HO503.out) hb); replace HO507 := as_ (Kd.R_below (by (with_reducible repeat (first | apply Kd.R_alloc | apply Kd.R_drewN | apply Kd.R_drew)); exact HO507.out) hb); replace HO511 := as_ (Kd.R_below (by (with_reducible repeat (first | apply Kd.R_alloc | apply Kd.R_drewN | apply Kd.R_drew)); exact HO511.out) hb); replace HO514 := as_ (Kd.R_below (by (with_reducible repeat (first | apply Kd.R_alloc | apply Kd.R_drewN | apply Kd.R_drew)); exact HO514.out) hb); replace HO518 := as_ (Kd.S_below (by (with_reducible repeat (first | apply Kd.S_alloc | apply Kd.S_drewN | apply Kd.S_drew)); exact HO518.out) hb); replace HO521 := as_ (Kd.S_below (by (with_reducible repeat (first | apply Kd.S_alloc | apply Kd.S_drewN | apply Kd.S_drew)); exact HO521.out) hb); replace HO525 := as_ (Kd.S_below (by (with_reducible repeat (first | apply Kd.S_alloc | apply Kd.S_drewN | apply Kd.S_drew)); exact HO525.out) hb); replace HO528 := as_ (Kd.S_below (by (with_reducible repeat (first | apply Kd.S_alloc | apply Kd.S_drewN | apply Kd.S_drew)); exact HO528.out) hb); replace HB := as_ (below_step bA hb); (try clear hb); (try clear hb2); (try clear hk); (try clear hi)))
 go_ret
 exact ⟨eW, by repeat (first | (with_reducible first | exact HB.out | apply below_alloc | apply pw_below_drewN | apply below_drew1) | exact HB.out)⟩
/-! ### withylaw17_LevelAll: function 4 -/
mutual
def withylaw17_LevelAll.l0 : Nat → List ByteArray → List Int → Int → Int → Option (Bool)
 | 0, _, _, _, _ => none
 | k + 1, x0, x6, x7, x8 => if x8 < (x6.length : Int) then (if 0 ≤ x8 then (if (rd x6 x8) < 1 then (none) else (if (wrap64 (x8 + 1)) < (x6.length : Int) then (if (rd x6 x8) < 2 then (none) else (if (rd x6 x8) > (wrap64 ((wrap64 ((x0.length : Int) + 1)) - x7)) then (none) else (withylaw17_LevelAll.l0 k x0 x6 (wrap64 (x7 + (rd x6 x8))) (wrap64 (x8 + 1))))) else (if (rd x6 x8) > (wrap64 ((wrap64 ((x0.length : Int) + 1)) - x7)) then (none) else (withylaw17_LevelAll.l0 k x0 x6 (wrap64 (x7 + (rd x6 x8))) (wrap64 (x8 + 1)))))) else (none)) else (if x7 = (wrap64 ((x0.length : Int) + 1)) then ((level_Up.f k x0 x6).bind fun t544 => ((level_Down.f k x0 x6).bind fun t547 => (if (t544.length : Int) = (wrap64 ((x6.length : Int) - 1)) then (withylaw17_LevelAll.j1 k x0 x6 t544 t547 ((t547.length : Int) != (x6.length : Int))) else (withylaw17_LevelAll.j1 k x0 x6 t544 t547 true)))) else (none))
def withylaw17_LevelAll.j1 : Nat → List ByteArray → List Int → List ByteArray → List (List ByteArray) → Bool → Option (Bool)
 | 0, _, _, _, _, _ => none
 | k + 1, x0, x6, x9, x10, x87 => if x87 = true then (none) else (withylaw17_LevelAll.l1 k x0 x6 x9 x10 (([] : List ByteArray)) 0)
def withylaw17_LevelAll.l1 : Nat → List ByteArray → List Int → List ByteArray → List (List ByteArray) → List ByteArray → Int → Option (Bool)
 | 0, _, _, _, _, _, _ => none
 | k + 1, x0, x6, x9, x10, x11, x12 => if x12 < (x6.length : Int) then (if 0 ≤ x12 then (if x12 < (x10.length : Int) then (if ((rd_L5 x10 x12).length : Int) = (wrap64 ((rd x6 x12) - 1)) then (if x11.length + (rd_L5 x10 x12).length < 8796093022208 then ((some (x11 ++ (rd_L5 x10 x12) : List ByteArray)).bind fun y558 => (if x12 < (x9.length : Int) then (if y558.length < 8796093022208 then (withylaw17_LevelAll.l1 k x0 x6 x9 x10 (y558 ++ [rdOf ByteArray.empty x9 x12]) (wrap64 (x12 + 1))) else (none)) else (withylaw17_LevelAll.l1 k x0 x6 x9 x10 y558 (wrap64 (x12 + 1))))) else (none)) else (none)) else (none)) else (none)) else ((withyref01_Words.f k x11 x0).bind fun t553 => (if t553 = true then ((withylaw17_fixed.f k).bind fun t554 => (some t554)) else (none)))
end
def withylaw17_LevelAll.f (k : Nat) (l0 : List ByteArray) (a1 : Int) : Option (Bool) := (withylaw16_Size.f a1).bind fun t531 => ((withylaw17_Rise.f k l0 t531).bind fun t532 => ((level_Group.f k t532 t531).bind fun t535 => (withylaw17_LevelAll.l0 k t532 t535 0 0)))
theorem withylaw17_LevelAll.mono_l : ∀ k, (∀ y0 y1 y2 y3, LeO (withylaw17_LevelAll.l0 k y0 y1 y2 y3) (withylaw17_LevelAll.l0 (k + 1) y0 y1 y2 y3)) ∧ (∀ y0 y1 y2 y3 y4, LeO (withylaw17_LevelAll.j1 k y0 y1 y2 y3 y4) (withylaw17_LevelAll.j1 (k + 1) y0 y1 y2 y3 y4)) ∧ (∀ y0 y1 y2 y3 y4 y5, LeO (withylaw17_LevelAll.l1 k y0 y1 y2 y3 y4 y5) (withylaw17_LevelAll.l1 (k + 1) y0 y1 y2 y3 y4 y5))
 | 0 => ⟨fun _ _ _ _ r h => by simp [withylaw17_LevelAll.l0] at h, fun _ _ _ _ _ r h => by simp [withylaw17_LevelAll.j1] at h, fun _ _ _ _ _ _ r h => by simp [withylaw17_LevelAll.l1] at h⟩
 | k + 1 => by
  obtain ⟨ih0, ih1, ih2⟩ := withylaw17_LevelAll.mono_l k
  refine ⟨?_, ?_, ?_⟩
  ·intro y0 y1 y2 y3
   unfold withylaw17_LevelAll.l0
   repeat' first
   | (with_reducible exact ih0 _ _ _ _)
   | (with_reducible exact ih1 _ _ _ _ _)
   | (with_reducible exact ih2 _ _ _ _ _ _)
   | (with_reducible exact level_Down.mono _ _ _)
   | (with_reducible exact level_Group.mono _ _ _)
   | (with_reducible exact level_Up.mono _ _ _)
   | (with_reducible exact withylaw17_Rise.mono _ _ _)
   | (with_reducible exact withylaw17_fixed.mono _)
   | (with_reducible exact withyref01_Words.mono _ _ _)
   | (with_reducible exact LeO.refl _)
   | (with_reducible exact LeO.none _)
   | (with_reducible refine LeO.ite ?_ ?_)
   | (with_reducible refine LeO.bind ?_ (fun _ => ?_))
   | exact ih0 _ _ _ _
   | exact ih1 _ _ _ _ _
   | exact ih2 _ _ _ _ _ _
   | exact level_Down.mono _ _ _
   | exact level_Group.mono _ _ _
   | exact level_Up.mono _ _ _
   | exact withylaw17_Rise.mono _ _ _
   | exact withylaw17_fixed.mono _
   | exact withyref01_Words.mono _ _ _
   | exact LeO.none _
   | refine LeO.ite ?_ ?_
   | refine LeO.bind ?_ (fun _ => ?_)
  ·intro y0 y1 y2 y3 y4
   unfold withylaw17_LevelAll.j1
   repeat' first
   | (with_reducible exact ih0 _ _ _ _)
   | (with_reducible exact ih1 _ _ _ _ _)
   | (with_reducible exact ih2 _ _ _ _ _ _)
   | (with_reducible exact level_Down.mono _ _ _)
   | (with_reducible exact level_Group.mono _ _ _)
   | (with_reducible exact level_Up.mono _ _ _)
   | (with_reducible exact withylaw17_Rise.mono _ _ _)
   | (with_reducible exact withylaw17_fixed.mono _)
   | (with_reducible exact withyref01_Words.mono _ _ _)
   | (with_reducible exact LeO.refl _)
   | (with_reducible exact LeO.none _)
   | (with_reducible refine LeO.ite ?_ ?_)
   | (with_reducible refine LeO.bind ?_ (fun _ => ?_))
   | exact ih0 _ _ _ _
   | exact ih1 _ _ _ _ _
   | exact ih2 _ _ _ _ _ _
   | exact level_Down.mono _ _ _
   | exact level_Group.mono _ _ _
   | exact level_Up.mono _ _ _
   | exact withylaw17_Rise.mono _ _ _
   | exact withylaw17_fixed.mono _
   | exact withyref01_Words.mono _ _ _
   | exact LeO.none _
   | refine LeO.ite ?_ ?_
   | refine LeO.bind ?_ (fun _ => ?_)
  ·intro y0 y1 y2 y3 y4 y5
   unfold withylaw17_LevelAll.l1
   repeat' first
   | (with_reducible exact ih0 _ _ _ _)
   | (with_reducible exact ih1 _ _ _ _ _)
   | (with_reducible exact ih2 _ _ _ _ _ _)
   | (with_reducible exact level_Down.mono _ _ _)
   | (with_reducible exact level_Group.mono _ _ _)
   | (with_reducible exact level_Up.mono _ _ _)
   | (with_reducible exact withylaw17_Rise.mono _ _ _)
   | (with_reducible exact withylaw17_fixed.mono _)
   | (with_reducible exact withyref01_Words.mono _ _ _)
   | (with_reducible exact LeO.refl _)
   | (with_reducible exact LeO.none _)
   | (with_reducible refine LeO.ite ?_ ?_)
   | (with_reducible refine LeO.bind ?_ (fun _ => ?_))
   | exact ih0 _ _ _ _
   | exact ih1 _ _ _ _ _
   | exact ih2 _ _ _ _ _ _
   | exact level_Down.mono _ _ _
   | exact level_Group.mono _ _ _
   | exact level_Up.mono _ _ _
   | exact withylaw17_Rise.mono _ _ _
   | exact withylaw17_fixed.mono _
   | exact withyref01_Words.mono _ _ _
   | exact LeO.none _
   | refine LeO.ite ?_ ?_
   | refine LeO.bind ?_ (fun _ => ?_)
theorem withylaw17_LevelAll.mono : ∀ a0 a1 k, LeO (withylaw17_LevelAll.f k a0 a1) (withylaw17_LevelAll.f (k + 1) a0 a1) := by
 intro a0 a1 k
 obtain ⟨ih0, ih1, ih2⟩ := withylaw17_LevelAll.mono_l k
 unfold withylaw17_LevelAll.f
 repeat' first
   | (with_reducible exact ih0 _ _ _ _)
   | (with_reducible exact ih1 _ _ _ _ _)
   | (with_reducible exact ih2 _ _ _ _ _ _)
   | (with_reducible exact level_Down.mono _ _ _)
   | (with_reducible exact level_Group.mono _ _ _)
   | (with_reducible exact level_Up.mono _ _ _)
   | (with_reducible exact withylaw17_Rise.mono _ _ _)
   | (with_reducible exact withylaw17_fixed.mono _)
   | (with_reducible exact withyref01_Words.mono _ _ _)
   | (with_reducible exact LeO.refl _)
   | (with_reducible exact LeO.none _)
   | (with_reducible refine LeO.ite ?_ ?_)
   | (with_reducible refine LeO.bind ?_ (fun _ => ?_))
   | exact ih0 _ _ _ _
   | exact ih1 _ _ _ _ _
   | exact ih2 _ _ _ _ _ _
   | exact level_Down.mono _ _ _
   | exact level_Group.mono _ _ _
   | exact level_Up.mono _ _ _
   | exact withylaw17_Rise.mono _ _ _
   | exact withylaw17_fixed.mono _
   | exact withyref01_Words.mono _ _ _
   | exact LeO.none _
   | refine LeO.ite ?_ ?_
   | refine LeO.bind ?_ (fun _ => ?_)
set_option maxHeartbeats 8000000 in
set_option maxRecDepth 100000 in
theorem withylaw17_LevelAll.calls (k : Nat) (A0 : Option Addr) (c0 : Nat) (l0 : List ByteArray) (a1 : Int) (r : Bool) (w : World) (hr0 : Kd.C Kd.string w A0 l0.length l0) (hc0 : l0.length ≤ c0) (h : withylaw17_LevelAll.f k l0 a1 = some r) :
  Calls Try.prog 4 #[.slice A0 l0.length c0, .int .i64 a1] w fun e w' => e = .returned (.bool r) ∧ Below w.heap.size w w' := by
 have HR0 := Aside0.mk hr0
 have HC0 := Aside0.mk hc0
 clear hr0 hc0
 have HB := as_ (Below.refl w.heap.size w)
 have H : ((withylaw16_Size.f a1).bind fun t531 => ((withylaw17_Rise.f k l0 t531).bind fun t532 => ((level_Group.f k t532 t531).bind fun t535 => (withylaw17_LevelAll.l0 k t532 t535 0 0)))) = some r := h
 clear h
 replace H := bM H
 obtain ⟨t531, A30, H⟩ := H
 replace H : ((withylaw17_Rise.f k l0 t531).bind fun t532 => ((level_Group.f k t532 t531).bind fun t535 => (withylaw17_LevelAll.l0 k t532 t535 0 0))) = some r := H
 have A3 := Aside0.mk A30
 clear A30
 replace H := bM H
 obtain ⟨t532, A40, H⟩ := H
 replace H : ((level_Group.f k t532 t531).bind fun t535 => (withylaw17_LevelAll.l0 k t532 t535 0 0)) = some r := H
 have A4 := Aside0.mk A40
 clear A40
 replace H := bM H
 obtain ⟨t535, A50, H⟩ := H
 replace H : (withylaw17_LevelAll.l0 k t532 t535 0 0) = some r := H
 have A5 := Aside0.mk A50
 clear A50
 have H' := Aside0.mk H
 clear H
 go_enter Try.func4, Try.ntmps4
 go_wp2_with (first | (go_at_call 12; (with_reducible refine (withylaw16_Size.calls a1 t531 _ A3.out).mono ?_); rintro e w' ⟨rfl, ⟨nd, rfl⟩⟩; (try first | exact ⟨rfl, _, World.drewN_drewN _ _ _⟩ | exact ⟨rfl, _, Eq.trans (World.drewN_drewN _ _ _) (congrArg (World.drewN _) (Nat.add_assoc _ _ _))⟩)) | (go_at_call 13; (with_reducible refine (withylaw17_Rise.calls k _ _ l0 t531 t532 _ ?side1 ?side2 A4.out).mono ?_); (case side1 => repeat (first | exact HR0.out | (with_reducible refine Kd.C_alloc ?_ _) | (with_reducible refine Kd.C_drewN ?_ _) | (with_reducible refine Kd.C_drew ?_))); (case side2 => exact HC0.out); rintro e w6 ⟨v533, rfl, ho0, hb⟩; have HO534 := as_ (Kd.R_lower ho0 (below_size bA)); replace HB := as_ (below_step bA hb); (try clear hb); (try clear hb2); (try clear hk); (try clear hi); (try clear ho0); obtain ⟨Ao7, co7, eo7⟩ := Kd.R_slice HO534.out; subst eo7) | (go_at_call 16; (with_reducible refine (level_Group.calls k _ _ t532 t531 t535 _ ?side1 ?side2 A5.out).mono ?_); (case side1 => repeat (first | exact (Kd.R_reads' HO534.out).2.2 | (with_reducible refine Kd.C_alloc ?_ _) | (with_reducible refine Kd.C_drewN ?_ _) | (with_reducible refine Kd.C_drew ?_))); (case side2 => exact (Kd.R_reads' HO534.out).2.1); rintro e w8 ⟨v536, rfl, ho0, hb⟩; have HO537 := as_ (Kd.R_lower ho0 (below_size bA)); replace HO534 := as_ (Kd.R_below (by (with_reducible repeat (first | apply Kd.R_alloc | apply Kd.R_drewN | apply Kd.R_drew)); exact HO534.out) hb); replace HB := as_ (below_step bA hb); (try clear hb); (try clear hb2); (try clear hk); (try clear hi); (try clear ho0)))
 repeat (go_quiet (first | (go_at_call 12; (with_reducible refine (withylaw16_Size.calls a1 t531 _ A3.out).mono ?_); rintro e w' ⟨rfl, ⟨nd, rfl⟩⟩; (try first | exact ⟨rfl, _, World.drewN_drewN _ _ _⟩ | exact ⟨rfl, _, Eq.trans (World.drewN_drewN _ _ _) (congrArg (World.drewN _) (Nat.add_assoc _ _ _))⟩)) | (go_at_call 13; (with_reducible refine (withylaw17_Rise.calls k _ _ l0 t531 t532 _ ?side1 ?side2 A4.out).mono ?_); (case side1 => repeat (first | exact HR0.out | (with_reducible refine Kd.C_alloc ?_ _) | (with_reducible refine Kd.C_drewN ?_ _) | (with_reducible refine Kd.C_drew ?_))); (case side2 => exact HC0.out); rintro e w6 ⟨v533, rfl, ho0, hb⟩; have HO534 := as_ (Kd.R_lower ho0 (below_size bA)); replace HB := as_ (below_step bA hb); (try clear hb); (try clear hb2); (try clear hk); (try clear hi); (try clear ho0); obtain ⟨Ao7, co7, eo7⟩ := Kd.R_slice HO534.out; subst eo7) | (go_at_call 16; (with_reducible refine (level_Group.calls k _ _ t532 t531 t535 _ ?side1 ?side2 A5.out).mono ?_); (case side1 => repeat (first | exact (Kd.R_reads' HO534.out).2.2 | (with_reducible refine Kd.C_alloc ?_ _) | (with_reducible refine Kd.C_drewN ?_ _) | (with_reducible refine Kd.C_drew ?_))); (case side2 => exact (Kd.R_reads' HO534.out).2.1); rintro e w8 ⟨v536, rfl, ho0, hb⟩; have HO537 := as_ (Kd.R_lower ho0 (below_size bA)); replace HO534 := as_ (Kd.R_below (by (with_reducible repeat (first | apply Kd.R_alloc | apply Kd.R_drewN | apply Kd.R_drew)); exact HO534.out) hb); replace HB := as_ (below_step bA hb); (try clear hb); (try clear hb2); (try clear hk); (try clear hi); (try clear ho0))); try go_wp2_with (first | (go_at_call 12; (with_reducible refine (withylaw16_Size.calls a1 t531 _ A3.out).mono ?_); rintro e w' ⟨rfl, ⟨nd, rfl⟩⟩; (try first | exact ⟨rfl, _, World.drewN_drewN _ _ _⟩ | exact ⟨rfl, _, Eq.trans (World.drewN_drewN _ _ _) (congrArg (World.drewN _) (Nat.add_assoc _ _ _))⟩)) | (go_at_call 13; (with_reducible refine (withylaw17_Rise.calls k _ _ l0 t531 t532 _ ?side1 ?side2 A4.out).mono ?_); (case side1 => repeat (first | exact HR0.out | (with_reducible refine Kd.C_alloc ?_ _) | (with_reducible refine Kd.C_drewN ?_ _) | (with_reducible refine Kd.C_drew ?_))); (case side2 => exact HC0.out); rintro e w6 ⟨v533, rfl, ho0, hb⟩; have HO534 := as_ (Kd.R_lower ho0 (below_size bA)); replace HB := as_ (below_step bA hb); (try clear hb); (try clear hb2); (try clear hk); (try clear hi); (try clear ho0); obtain ⟨Ao7, co7, eo7⟩ := Kd.R_slice HO534.out; subst eo7) | (go_at_call 16; (with_reducible refine (level_Group.calls k _ _ t532 t531 t535 _ ?side1 ?side2 A5.out).mono ?_); (case side1 => repeat (first | exact (Kd.R_reads' HO534.out).2.2 | (with_reducible refine Kd.C_alloc ?_ _) | (with_reducible refine Kd.C_drewN ?_ _) | (with_reducible refine Kd.C_drew ?_))); (case side2 => exact (Kd.R_reads' HO534.out).2.1); rintro e w8 ⟨v536, rfl, ho0, hb⟩; have HO537 := as_ (Kd.R_lower ho0 (below_size bA)); replace HO534 := as_ (Kd.R_below (by (with_reducible repeat (first | apply Kd.R_alloc | apply Kd.R_drewN | apply Kd.R_drew)); exact HO534.out) hb); replace HB := as_ (below_step bA hb); (try clear hb); (try clear hb2); (try clear hk); (try clear hi); (try clear ho0))))
 go_loopg [7, 8] k (fun kq v7 v8 w' => ∃ (x7_1 : Int) (x8_1 : Int), v7 = .int .i64 x7_1 ∧ v8 = .int .i64 x8_1 ∧ Aside0 (withylaw17_LevelAll.l0 kq t532 t535 x7_1 x8_1 = some r) ∧ Aside0 (kq ≤ k) ∧ Aside0 (Kd.R Kd.string 9 w' w.heap.size (fun _ => True) (.slice Ao7 t532.length co7) t532) ∧ Aside0 (Kd.R (Kd.int .i64) 3 w' w.heap.size (fun _ => True) v536 t535) ∧ Aside0 (Below w.heap.size w w'))
 case atStart => exact ⟨(0), (0), (by first | rfl | (simp; done) | (simp [*]; done)), (by first | rfl | (simp; done) | (simp [*]; done)), H', ⟨Nat.le_refl _⟩, ⟨by (with_reducible repeat (first | apply Kd.R_alloc | apply Kd.R_drewN | apply Kd.R_drew)); exact HO534.out⟩, ⟨by (with_reducible repeat (first | apply Kd.R_alloc | apply Kd.R_drewN | apply Kd.R_drew)); exact HO537.out⟩, ⟨by repeat (first | (with_reducible first | exact HB.out | apply below_alloc | apply pw_below_drewN | apply below_drew1) | exact HB.out)⟩⟩
 case round =>
  clear H'
  try clear p2
  try clear c4
  obtain ⟨x7_1, x8_1, rfl, rfl, HA, HK1, HO_0, HO_6, HB⟩ := hrel
  cases gk with
  | zero => exact absurd HA.out (by simp [withylaw17_LevelAll.l0])
  | succ k1 =>
   have H := HA.out
   clear HA
   simp only [withylaw17_LevelAll.l0] at H
   by_cases c9 : x8_1 < (t535.length : Int)
   ·rw [if_pos c9] at H
    have c9b0 : decide (x8_1 < (t535.length : Int)) = true := decide_eq_true c9
    clear c9
    by_cases c10 : 0 ≤ x8_1
    rotate_left
    ·rw [if_neg c10] at H
     exact absurd H (by simp)
    rw [if_pos c10] at H
    have c10b0 : decide (0 ≤ x8_1) = true := decide_eq_true c10
    clear c10
    by_cases c11 : (rd t535 x8_1) < 1
    ·rw [if_pos c11] at H
     exact absurd H (by simp)
    rw [if_neg c11] at H
    have c11b0 : decide ((rd t535 x8_1) < 1) = false := decide_eq_false c11
    clear c11
    by_cases c12 : (wrap64 (x8_1 + 1)) < (t535.length : Int)
    rotate_left
    ·rw [if_neg c12] at H
     have c12b0 : decide ((wrap64 (x8_1 + 1)) < (t535.length : Int)) = false := decide_eq_false c12
     clear c12
     by_cases c16 : (rd t535 x8_1) > (wrap64 ((wrap64 ((t532.length : Int) + 1)) - x7_1))
     ·rw [if_pos c16] at H
      exact absurd H (by simp)
     rw [if_neg c16] at H
     have c16b0 : decide ((wrap64 ((wrap64 ((t532.length : Int) + 1)) - x7_1)) < (rd t535 x8_1)) = false := decide_eq_false c16
     clear c16
     have H' := Aside0.mk H
     clear H
     obtain ⟨Ao17, co17, eo17⟩ := Kd.R_slice HO_6.out
     subst eo17
     have p538 : 0 ≤ (x8_1 : Int) := of_decide_eq_true aM
     have q538 : x8_1 < (t535.length : Int) := of_decide_eq_true aM
     obtain ⟨ad538, e538, hx538_0⟩ := Kd.at_int (Kd.R_reads' HO_6.out).2.2 x8_1 p538 q538
     cases e538
     replace p538 := eq_true p538
     replace q538 := eq_true q538
     have p542 : 0 ≤ (x8_1 : Int) := of_decide_eq_true aM
     have q542 : x8_1 < (t535.length : Int) := of_decide_eq_true aM
     obtain ⟨ad542, e542, hx542_0⟩ := Kd.at_int (Kd.R_reads' HO_6.out).2.2 x8_1 p542 q542
     obtain rfl : ad538 = ad542 := (by injection e542)
     replace p542 := eq_true p542
     replace q542 := eq_true q542
     have p543 : 0 ≤ (x8_1 : Int) := of_decide_eq_true aM
     have q543 : x8_1 < (t535.length : Int) := of_decide_eq_true aM
     obtain ⟨ad543, e543, hx543_0⟩ := Kd.at_int (Kd.R_reads' HO_6.out).2.2 x8_1 p543 q543
     obtain rfl : ad538 = ad543 := (by injection e543)
     replace p543 := eq_true p543
     replace q543 := eq_true q543
     go_wp2
     repeat (go_quiet (fail); try go_wp2)
     go_roundg k1
     case measure => have := HK1.out; omega
     case rel => exact ⟨(wrap64 (x7_1 + (rd t535 x8_1))), (wrap64 (x8_1 + 1)), (by first | rfl | (simp; done) | (simp [*]; done)), (by first | rfl | (simp; done) | (simp [*]; done)), H', ⟨by have := HK1.out; omega⟩, ⟨by (with_reducible repeat (first | apply Kd.R_alloc | apply Kd.R_drewN | apply Kd.R_drew)); exact HO_0.out⟩, ⟨by (with_reducible repeat (first | apply Kd.R_alloc | apply Kd.R_drewN | apply Kd.R_drew)); exact HO_6.out⟩, ⟨by repeat (first | (with_reducible first | exact HB.out | apply below_alloc | apply pw_below_drewN | apply below_drew1) | exact HB.out)⟩⟩
    rw [if_pos c12] at H
    have c12b0 : decide ((wrap64 (x8_1 + 1)) < (t535.length : Int)) = true := decide_eq_true c12
    clear c12
    by_cases c13 : (rd t535 x8_1) < 2
    ·rw [if_pos c13] at H
     exact absurd H (by simp)
    rw [if_neg c13] at H
    have c13b0 : decide ((rd t535 x8_1) < 2) = false := decide_eq_false c13
    clear c13
    by_cases c14 : (rd t535 x8_1) > (wrap64 ((wrap64 ((t532.length : Int) + 1)) - x7_1))
    ·rw [if_pos c14] at H
     exact absurd H (by simp)
    rw [if_neg c14] at H
    have c14b0 : decide ((wrap64 ((wrap64 ((t532.length : Int) + 1)) - x7_1)) < (rd t535 x8_1)) = false := decide_eq_false c14
    clear c14
    have H' := Aside0.mk H
    clear H
    obtain ⟨Ao15, co15, eo15⟩ := Kd.R_slice HO_6.out
    subst eo15
    have p538 : 0 ≤ (x8_1 : Int) := of_decide_eq_true aM
    have q538 : x8_1 < (t535.length : Int) := of_decide_eq_true aM
    obtain ⟨ad538, e538, hx538_0⟩ := Kd.at_int (Kd.R_reads' HO_6.out).2.2 x8_1 p538 q538
    cases e538
    replace p538 := eq_true p538
    replace q538 := eq_true q538
    have p539 : 0 ≤ (x8_1 : Int) := of_decide_eq_true aM
    have q539 : x8_1 < (t535.length : Int) := of_decide_eq_true aM
    obtain ⟨ad539, e539, hx539_0⟩ := Kd.at_int (Kd.R_reads' HO_6.out).2.2 x8_1 p539 q539
    obtain rfl : ad538 = ad539 := (by injection e539)
    replace p539 := eq_true p539
    replace q539 := eq_true q539
    have p540 : 0 ≤ (x8_1 : Int) := of_decide_eq_true aM
    have q540 : x8_1 < (t535.length : Int) := of_decide_eq_true aM
    obtain ⟨ad540, e540, hx540_0⟩ := Kd.at_int (Kd.R_reads' HO_6.out).2.2 x8_1 p540 q540
    obtain rfl : ad538 = ad540 := (by injection e540)
    replace p540 := eq_true p540
    replace q540 := eq_true q540
    have p541 : 0 ≤ (x8_1 : Int) := of_decide_eq_true aM
    have q541 : x8_1 < (t535.length : Int) := of_decide_eq_true aM
    obtain ⟨ad541, e541, hx541_0⟩ := Kd.at_int (Kd.R_reads' HO_6.out).2.2 x8_1 p541 q541
    obtain rfl : ad538 = ad541 := (by injection e541)
    replace p541 := eq_true p541
    replace q541 := eq_true q541
    go_wp2
    repeat (go_quiet (fail); try go_wp2)
    go_roundg k1
    case measure => have := HK1.out; omega
    case rel => exact ⟨(wrap64 (x7_1 + (rd t535 x8_1))), (wrap64 (x8_1 + 1)), (by first | rfl | (simp; done) | (simp [*]; done)), (by first | rfl | (simp; done) | (simp [*]; done)), H', ⟨by have := HK1.out; omega⟩, ⟨by (with_reducible repeat (first | apply Kd.R_alloc | apply Kd.R_drewN | apply Kd.R_drew)); exact HO_0.out⟩, ⟨by (with_reducible repeat (first | apply Kd.R_alloc | apply Kd.R_drewN | apply Kd.R_drew)); exact HO_6.out⟩, ⟨by repeat (first | (with_reducible first | exact HB.out | apply below_alloc | apply pw_below_drewN | apply below_drew1) | exact HB.out)⟩⟩
   rw [if_neg c9] at H
   have c9b0 : decide (x8_1 < (t535.length : Int)) = false := decide_eq_false c9
   clear c9
   by_cases c18 : x7_1 = (wrap64 ((t532.length : Int) + 1))
   rotate_left
   ·rw [if_neg c18] at H
    exact absurd H (by simp)
 
   rw [if_pos c18] at H
   have c18b0 : (x7_1 == (wrap64 ((t532.length : Int) + 1))) = true := beq_iff_eq.mpr c18
   have c18b1 : (x7_1 != (wrap64 ((t532.length : Int) + 1))) = false := bne_eq_false_iff_eq.mpr c18
   clear c18
   replace H := bM H
   obtain ⟨t544, A190, H⟩ := H
   replace H : ((level_Down.f k1 t532 t535).bind fun t547 => (if (t544.length : Int) = (wrap64 ((t535.length : Int) - 1)) then (withylaw17_LevelAll.j1 k1 t532 t535 t544 t547 ((t547.length : Int) != (t535.length : Int))) else (withylaw17_LevelAll.j1 k1 t532 t535 t544 t547 true))) = some r := H
   have A19 := Aside0.mk A190
   clear A190
   replace H := bM H
   obtain ⟨t547, A200, H⟩ := H
   replace H : (if (t544.length : Int) = (wrap64 ((t535.length : Int) - 1)) then (withylaw17_LevelAll.j1 k1 t532 t535 t544 t547 ((t547.length : Int) != (t535.length : Int))) else (withylaw17_LevelAll.j1 k1 t532 t535 t544 t547 true)) = some r := H
   have A20 := Aside0.mk A200
   clear A200
   have HC21 := Aside0.mk H
   clear H
   obtain ⟨Ao22, co22, eo22⟩ := Kd.R_slice HO_6.out
   subst eo22
   go_upto_region 14 with (first | (go_at_call 18; (with_reducible refine (level_Up.calls k1 _ _ t532 _ _ t535 t544 _ ?side1 ?side2 ?side3 ?side4 A19.out).mono ?_); (case side1 => repeat (first | exact (Kd.R_reads' HO_0.out).2.2 | (with_reducible refine Kd.C_alloc ?_ _) | (with_reducible refine Kd.C_drewN ?_ _) | (with_reducible refine Kd.C_drew ?_))); (case side2 => exact (Kd.R_reads' HO_0.out).2.1); (case side3 => repeat (first | exact (Kd.R_reads' HO_6.out).2.2 | (with_reducible refine Kd.C_alloc ?_ _) | (with_reducible refine Kd.C_drewN ?_ _) | (with_reducible refine Kd.C_drew ?_))); (case side4 => exact (Kd.R_reads' HO_6.out).2.1); rintro e w23 ⟨v545, rfl, ho0, hb⟩; have HO546 := as_ (Kd.R_lower (Kd.R_new' ho0 (Kd.R_lt (by (with_reducible repeat (first | apply Kd.R_alloc | apply Kd.R_drewN | apply Kd.R_drew)); exact HO_0.out))) (below_size bA)); replace HO_0 := as_ (Kd.R_elder' (by (with_reducible repeat (first | apply Kd.R_alloc | apply Kd.R_drewN | apply Kd.R_drew)); exact HO_0.out) (Kd.R_base ho0) hb); replace HO_6 := as_ (Kd.R_below (by (with_reducible repeat (first | apply Kd.R_alloc | apply Kd.R_drewN | apply Kd.R_drew)); exact HO_6.out) hb); replace HB := as_ (below_step bA hb); (try clear hb); (try clear hb2); (try clear hk); (try clear hi); (try clear ho0)) | (go_at_call 21; (with_reducible refine (level_Down.calls k1 _ _ t532 _ _ t535 t547 _ ?side1 ?side2 ?side3 ?side4 A20.out).mono ?_); (case side1 => repeat (first | exact (Kd.R_reads' HO_0.out).2.2 | (with_reducible refine Kd.C_alloc ?_ _) | (with_reducible refine Kd.C_drewN ?_ _) | (with_reducible refine Kd.C_drew ?_))); (case side2 => exact (Kd.R_reads' HO_0.out).2.1); (case side3 => repeat (first | exact (Kd.R_reads' HO_6.out).2.2 | (with_reducible refine Kd.C_alloc ?_ _) | (with_reducible refine Kd.C_drewN ?_ _) | (with_reducible refine Kd.C_drew ?_))); (case side4 => exact (Kd.R_reads' HO_6.out).2.1); rintro e w24 ⟨v548, rfl, ho0, hb⟩; have HO549 := as_ (Kd.S_lower (Kd.S_new' (Kd.S_new' ho0 (Kd.R_lt (by (with_reducible repeat (first | apply Kd.R_alloc | apply Kd.R_drewN | apply Kd.R_drew)); exact HO_0.out))) (Kd.R_lt (by (with_reducible repeat (first | apply Kd.R_alloc | apply Kd.R_drewN | apply Kd.R_drew)); exact HO546.out))) (below_size bA)); replace HO_0 := as_ (Kd.R_below (by (with_reducible repeat (first | apply Kd.R_alloc | apply Kd.R_drewN | apply Kd.R_drew)); exact HO_0.out) hb); replace HO_6 := as_ (Kd.R_below (by (with_reducible repeat (first | apply Kd.R_alloc | apply Kd.R_drewN | apply Kd.R_drew)); exact HO_6.out) hb); replace HO546 := as_ (Kd.R_below (by (with_reducible repeat (first | apply Kd.R_alloc | apply Kd.R_drewN | apply Kd.R_drew)); exact HO546.out) hb); replace HB := as_ (below_step bA hb); (try clear hb); (try clear hb2); (try clear hk); (try clear hi); (try clear ho0)))
   repeat (go_quiet (first | (go_at_call 18; (with_reducible refine (level_Up.calls k1 _ _ t532 _ _ t535 t544 _ ?side1 ?side2 ?side3 ?side4 A19.out).mono ?_); (case side1 => repeat (first | exact (Kd.R_reads' HO_0.out).2.2 | (with_reducible refine Kd.C_alloc ?_ _) | (with_reducible refine Kd.C_drewN ?_ _) | (with_reducible refine Kd.C_drew ?_))); (case side2 => exact (Kd.R_reads' HO_0.out).2.1); (case side3 => repeat (first | exact (Kd.R_reads' HO_6.out).2.2 | (with_reducible refine Kd.C_alloc ?_ _) | (with_reducible refine Kd.C_drewN ?_ _) | (with_reducible refine Kd.C_drew ?_))); (case side4 => exact (Kd.R_reads' HO_6.out).2.1); rintro e w23 ⟨v545, rfl, ho0, hb⟩; have HO546 := as_ (Kd.R_lower (Kd.R_new' ho0 (Kd.R_lt (by (with_reducible repeat (first | apply Kd.R_alloc | apply Kd.R_drewN | apply Kd.R_drew)); exact HO_0.out))) (below_size bA)); replace HO_0 := as_ (Kd.R_elder' (by (with_reducible repeat (first | apply Kd.R_alloc | apply Kd.R_drewN | apply Kd.R_drew)); exact HO_0.out) (Kd.R_base ho0) hb); replace HO_6 := as_ (Kd.R_below (by (with_reducible repeat (first | apply Kd.R_alloc | apply Kd.R_drewN | apply Kd.R_drew)); exact HO_6.out) hb); replace HB := as_ (below_step bA hb); (try clear hb); (try clear hb2); (try clear hk); (try clear hi); (try clear ho0)) | (go_at_call 21; (with_reducible refine (level_Down.calls k1 _ _ t532 _ _ t535 t547 _ ?side1 ?side2 ?side3 ?side4 A20.out).mono ?_); (case side1 => repeat (first | exact (Kd.R_reads' HO_0.out).2.2 | (with_reducible refine Kd.C_alloc ?_ _) | (with_reducible refine Kd.C_drewN ?_ _) | (with_reducible refine Kd.C_drew ?_))); (case side2 => exact (Kd.R_reads' HO_0.out).2.1); (case side3 => repeat (first | exact (Kd.R_reads' HO_6.out).2.2 | (with_reducible refine Kd.C_alloc ?_ _) | (with_reducible refine Kd.C_drewN ?_ _) | (with_reducible refine Kd.C_drew ?_))); (case side4 => exact (Kd.R_reads' HO_6.out).2.1); rintro e w24 ⟨v548, rfl, ho0, hb⟩; have HO549 := as_ (Kd.S_lower (Kd.S_new' (Kd.S_new' ho0 (Kd.R_lt (by (with_reducible repeat (first | apply Kd.R_alloc | apply Kd.R_drewN | apply Kd.R_drew)); exact HO_0.out))) (Kd.R_lt (by (with_reducible repeat (first | apply Kd.R_alloc | apply Kd.R_drewN | apply Kd.R_drew)); exact HO546.out))) (below_size bA)); replace HO_0 := as_ (Kd.R_below (by (with_reducible repeat (first | apply Kd.R_alloc | apply Kd.R_drewN | apply Kd.R_drew)); exact HO_0.out) hb); replace HO_6 := as_ (Kd.R_below (by (with_reducible repeat (first | apply Kd.R_alloc | apply Kd.R_drewN | apply Kd.R_drew)); exact HO_6.out) hb); replace HO546 := as_ (Kd.R_below (by (with_reducible repeat (first | apply Kd.R_alloc | apply Kd.R_drewN | apply Kd.R_drew)); exact HO546.out) hb); replace HB := as_ (below_step bA hb); (try clear hb); (try clear hb2); (try clear hk); (try clear hi); (try clear ho0))); go_upto_region 14 with (first | (go_at_call 18; (with_reducible refine (level_Up.calls k1 _ _ t532 _ _ t535 t544 _ ?side1 ?side2 ?side3 ?side4 A19.out).mono ?_); (case side1 => repeat (first | exact (Kd.R_reads' HO_0.out).2.2 | (with_reducible refine Kd.C_alloc ?_ _) | (with_reducible refine Kd.C_drewN ?_ _) | (with_reducible refine Kd.C_drew ?_))); (case side2 => exact (Kd.R_reads' HO_0.out).2.1); (case side3 => repeat (first | exact (Kd.R_reads' HO_6.out).2.2 | (with_reducible refine Kd.C_alloc ?_ _) | (with_reducible refine Kd.C_drewN ?_ _) | (with_reducible refine Kd.C_drew ?_))); (case side4 => exact (Kd.R_reads' HO_6.out).2.1); rintro e w23 ⟨v545, rfl, ho0, hb⟩; have HO546 := as_ (Kd.R_lower (Kd.R_new' ho0 (Kd.R_lt (by (with_reducible repeat (first | apply Kd.R_alloc | apply Kd.R_drewN | apply Kd.R_drew)); exact HO_0.out))) (below_size bA)); replace HO_0 := as_ (Kd.R_elder' (by (with_reducible repeat (first | apply Kd.R_alloc | apply Kd.R_drewN | apply Kd.R_drew)); exact HO_0.out) (Kd.R_base ho0) hb); replace HO_6 := as_ (Kd.R_below (by (with_reducible repeat (first | apply Kd.R_alloc | apply Kd.R_drewN | apply Kd.R_drew)); exact HO_6.out) hb); replace HB := as_ (below_step bA hb); (try clear hb); (try clear hb2); (try clear hk); (try clear hi); (try clear ho0)) | (go_at_call 21; (with_reducible refine (level_Down.calls k1 _ _ t532 _ _ t535 t547 _ ?side1 ?side2 ?side3 ?side4 A20.out).mono ?_); (case side1 => repeat (first | exact (Kd.R_reads' HO_0.out).2.2 | (with_reducible refine Kd.C_alloc ?_ _) | (with_reducible refine Kd.C_drewN ?_ _) | (with_reducible refine Kd.C_drew ?_))); (case side2 => exact (Kd.R_reads' HO_0.out).2.1); (case side3 => repeat (first | exact (Kd.R_reads' HO_6.out).2.2 | (with_reducible refine Kd.C_alloc ?_ _) | (with_reducible refine Kd.C_drewN ?_ _) | (with_reducible refine Kd.C_drew ?_))); (case side4 => exact (Kd.R_reads' HO_6.out).2.1); rintro e w24 ⟨v548, rfl, ho0, hb⟩; have HO549 := as_ (Kd.S_lower (Kd.S_new' (Kd.S_new' ho0 (Kd.R_lt (by (with_reducible repeat (first | apply Kd.R_alloc | apply Kd.R_drewN | apply Kd.R_drew)); exact HO_0.out))) (Kd.R_lt (by (with_reducible repeat (first | apply Kd.R_alloc | apply Kd.R_drewN | apply Kd.R_drew)); exact HO546.out))) (below_size bA)); replace HO_0 := as_ (Kd.R_below (by (with_reducible repeat (first | apply Kd.R_alloc | apply Kd.R_drewN | apply Kd.R_drew)); exact HO_0.out) hb); replace HO_6 := as_ (Kd.R_below (by (with_reducible repeat (first | apply Kd.R_alloc | apply Kd.R_drewN | apply Kd.R_drew)); exact HO_6.out) hb); replace HO546 := as_ (Kd.R_below (by (with_reducible repeat (first | apply Kd.R_alloc | apply Kd.R_drewN | apply Kd.R_drew)); exact HO546.out) hb); replace HB := as_ (below_step bA hb); (try clear hb); (try clear hb2); (try clear hk); (try clear hi); (try clear ho0))))
   (try simp only [Act.put, List.setIfInBounds_toArray, List.set_cons_zero, List.set_cons_succ])
   go_cut [87] (fun v87 wc => ∃ (kq : Nat) (x87_20 : Bool), v87 = .bool x87_20 ∧ Aside0 (withylaw17_LevelAll.j1 kq t532 t535 t544 t547 x87_20 = some r) ∧ Aside0 (kq ≤ k1) ∧ Aside0 (Kd.R Kd.string 9 wc w.heap.size (fun k_ => some k_ ≠ (v545 : Value).ownBlock) (.slice Ao7 t532.length co7) t532) ∧ Aside0 (Kd.R (Kd.int .i64) 3 wc w.heap.size (fun _ => True) (.slice Ao22 t535.length co22) t535) ∧ Aside0 (Kd.R Kd.string 9 wc w.heap.size (fun k_ => some k_ ≠ ((.slice Ao7 t532.length co7) : Value).ownBlock) v545 t544) ∧ Aside0 (Kd.S (Kd.slice 9 Kd.string) 22 wc w.heap.size (fun k_ => some k_ ≠ ((.slice Ao7 t532.length co7) : Value).ownBlock ∧ some k_ ≠ (v545 : Value).ownBlock) v548 t547) ∧ Aside0 (Below w.heap.size w wc))
   case first =>
    have H := HC21.out
    clear HC21
    by_cases c25 : (t544.length : Int) = (wrap64 ((t535.length : Int) - 1))
    rotate_left
    ·rw [if_neg c25] at H
     have c25b0 : ((t544.length : Int) == (wrap64 ((t535.length : Int) - 1))) = false := beq_eq_false_iff_ne.mpr c25
     have c25b1 : ((t544.length : Int) != (wrap64 ((t535.length : Int) - 1))) = true := bne_iff_ne.mpr c25
     (first | rw [c25b0] | (simp only [i64_w, i32_w]; rw [c25b0]) | rw [c25b1] | skip)
     have H' := Aside0.mk H
     clear H
     obtain ⟨Ao28, co28, eo28⟩ := Kd.R_slice HO546.out
     subst eo28
     go_wp2
     repeat (go_quiet (fail); try go_wp2)
     go_meet
     case rel => exact ⟨_, (true), (by first | rfl | (simp; done) | (simp [*]; done)), H', ⟨by have := HK1.out; first | omega | exact Nat.le_refl _⟩, ⟨by (with_reducible repeat (first | apply Kd.R_alloc | apply Kd.R_drewN | apply Kd.R_drew)); exact Kd.R_mono HO_0.out (fun _ hk => hk.2)⟩, ⟨by (with_reducible repeat (first | apply Kd.R_alloc | apply Kd.R_drewN | apply Kd.R_drew)); exact HO_6.out⟩, ⟨by (with_reducible repeat (first | apply Kd.R_alloc | apply Kd.R_drewN | apply Kd.R_drew)); exact Kd.R_mono HO546.out (fun _ hk => hk.2)⟩, ⟨by (with_reducible repeat (first | apply Kd.S_alloc | apply Kd.S_drewN | apply Kd.S_drew)); exact Kd.S_mono HO549.out (fun _ hk => ⟨hk.1.2, hk.2⟩)⟩, ⟨by repeat (first | (with_reducible first | exact HB.out | apply below_alloc | apply pw_below_drewN | apply below_drew1) | exact HB.out)⟩⟩
    rw [if_pos c25] at H
    have c25b0 : ((t544.length : Int) == (wrap64 ((t535.length : Int) - 1))) = true := beq_iff_eq.mpr c25
    have c25b1 : ((t544.length : Int) != (wrap64 ((t535.length : Int) - 1))) = false := bne_eq_false_iff_eq.mpr c25
    clear c25
    (first | rw [c25b0] | (simp only [i64_w, i32_w]; rw [c25b0]) | rw [c25b1] | skip)
    have H' := Aside0.mk H
    clear H
    obtain ⟨Ao26, co26, eo26⟩ := Kd.R_slice HO546.out
    subst eo26
    obtain ⟨Ao27, co27, eo27⟩ := Kd.S_slice HO549.out
    subst eo27
    go_wp2
    repeat (go_quiet (fail); try go_wp2)
    go_meet
    case rel => exact ⟨_, (((t547.length : Int) != (t535.length : Int))), (by first | rfl | (simp; done) | (simp [*]; done)), H', ⟨by have := HK1.out; first | omega | exact Nat.le_refl _⟩, ⟨by (with_reducible repeat (first | apply Kd.R_alloc | apply Kd.R_drewN | apply Kd.R_drew)); exact Kd.R_mono HO_0.out (fun _ hk => hk.2)⟩, ⟨by (with_reducible repeat (first | apply Kd.R_alloc | apply Kd.R_drewN | apply Kd.R_drew)); exact HO_6.out⟩, ⟨by (with_reducible repeat (first | apply Kd.R_alloc | apply Kd.R_drewN | apply Kd.R_drew)); exact Kd.R_mono HO546.out (fun _ hk => hk.2)⟩, ⟨by (with_reducible repeat (first | apply Kd.S_alloc | apply Kd.S_drewN | apply Kd.S_drew)); exact Kd.S_mono HO549.out (fun _ hk => ⟨hk.1.2, hk.2⟩)⟩, ⟨by repeat (first | (with_reducible first | exact HB.out | apply below_alloc | apply pw_below_drewN | apply below_drew1) | exact HB.out)⟩⟩
   case rest =>
    clear HC21
    try clear c1
    try clear c2
    try clear p2
    try clear c4
    try clear p5
    try clear q5
    try clear hx5
    try clear p6
    try clear c9
    try clear c9b0
    try clear c10
    try clear c10b0
    try clear c11
    try clear c11b0
    try clear c12
    try clear c12b0
    try clear c13
    try clear c13b0
    try clear c14
    try clear c14b0
    try clear c16
    try clear c16b0
    try clear c18
    try clear c18b0
    try clear c18b1
    try clear c25
    try clear c25b0
    try clear c25b1
    try clear hx538_0
    try clear hx539_0
    try clear hx540_0
    try clear hx541_0
    try clear hx542_0
    try clear hx543_0
    try clear p2
    try clear p538
    try clear p539
    try clear p540
    try clear p541
    try clear p542
    try clear p543
    try clear q538
    try clear q539
    try clear q540
    try clear q541
    try clear q542
    try clear q543
    obtain ⟨kq, x87_20, rfl, HA, HJ20, HO_0, HO_6, HO_9, HO_10, HB⟩ := hcut
    cases kq with
    | zero => exact absurd HA.out (by simp [withylaw17_LevelAll.j1])
    | succ kj20 =>
     have H := HA.out
     clear HA
     simp only [withylaw17_LevelAll.j1] at H
     by_cases c29 : x87_20 = true
     ·subst c29
      have H1 : (none) = some r := by rw [if_pos rfl] at H; exact H
      clear H
      have H := H1
      clear H1
      exact absurd H (by simp)
     replace c29 := Bool.eq_false_iff.mpr c29
     subst c29
     have H1 : (withylaw17_LevelAll.l1 kj20 t532 t535 t544 t547 (([] : List ByteArray)) 0) = some r := by rw [if_neg (show ¬ (false = true) by decide)] at H; exact H
     clear H
     have H := H1
     clear H1
     obtain ⟨y550, hy550⟩ : ∃ y_ : List ByteArray, y_ = (([] : List ByteArray)) := ⟨_, rfl⟩
     replace H : (withylaw17_LevelAll.l1 kj20 t532 t535 t544 t547 y550 0) = some r := by first | (rw [hy550]; with_reducible exact H) | (have H2_ := (Option.bind_some _ _).symm.trans H; rw [hy550]; with_reducible exact H2_) | (have H2_ := (Option.bind_some _ _).symm.trans H; with_reducible exact H2_) | with_reducible exact H | (rw [hy550]; exact H) | exact H
     have Ny550 := Aside0.mk hy550
     clear hy550
     have H' := Aside0.mk H
     clear H
     go_wp2_with (first | ((with_reducible refine gate_dst (N := 88) rfl ?_); (try (refine gate_guard (by rfl) ?_; dsimp only)); refine Kd.R_lit Kd.string _ 9 ?hg (N := 88) ?hd (xs := ([] : List ByteArray)) (inner := []) (ok := fun _ => True) (okp := fun _ => True) ?hr ?hp (fun _ hk => hk) trivial (Below.refl _ _) (Nat.le_refl _) (by simp) ?_; (case hd => rfl); (case hg => rfl); (case hr => first | (go_simp; done) | (go_simp; rfl)); (case hp => exact (Reps.none _ _)); intro v551 w30 ho31 hb hg_ hnew_; clear hg_ hnew_; (first | rw [← Ny550.out] at ho31 | (simp only [Int.reduceToNat] at ho31; rw [← Ny550.out] at ho31)); have HO552 := as_ (Kd.R_lower (Kd.R_new' (Kd.R_new' ho31 (Kd.R_lt (by (with_reducible repeat (first | apply Kd.R_alloc | apply Kd.R_drewN | apply Kd.R_drew)); exact HO_0.out))) (Kd.R_lt (by (with_reducible repeat (first | apply Kd.R_alloc | apply Kd.R_drewN | apply Kd.R_drew)); exact HO_9.out))) (below_size bA)); replace HO_0 := as_ (Kd.R_elder' (by (with_reducible repeat (first | apply Kd.R_alloc | apply Kd.R_drewN | apply Kd.R_drew)); exact HO_0.out) (Kd.R_base ho31) hb); replace HO_6 := as_ (Kd.R_below (by (with_reducible repeat (first | apply Kd.R_alloc | apply Kd.R_drewN | apply Kd.R_drew)); exact HO_6.out) hb); replace HO_9 := as_ (Kd.R_elder' (by (with_reducible repeat (first | apply Kd.R_alloc | apply Kd.R_drewN | apply Kd.R_drew)); exact HO_9.out) (Kd.R_base ho31) hb); replace HO_10 := as_ (Kd.S_elder' (by (with_reducible repeat (first | apply Kd.S_alloc | apply Kd.S_drewN | apply Kd.S_drew)); exact HO_10.out) (Kd.R_base ho31) hb); replace HB := as_ (below_step bA hb); clear hb ho31))
     repeat (go_quiet (first | ((with_reducible refine gate_dst (N := 88) rfl ?_); (try (refine gate_guard (by rfl) ?_; dsimp only)); refine Kd.R_lit Kd.string _ 9 ?hg (N := 88) ?hd (xs := ([] : List ByteArray)) (inner := []) (ok := fun _ => True) (okp := fun _ => True) ?hr ?hp (fun _ hk => hk) trivial (Below.refl _ _) (Nat.le_refl _) (by simp) ?_; (case hd => rfl); (case hg => rfl); (case hr => first | (go_simp; done) | (go_simp; rfl)); (case hp => exact (Reps.none _ _)); intro v551 w30 ho31 hb hg_ hnew_; clear hg_ hnew_; (first | rw [← Ny550.out] at ho31 | (simp only [Int.reduceToNat] at ho31; rw [← Ny550.out] at ho31)); have HO552 := as_ (Kd.R_lower (Kd.R_new' (Kd.R_new' ho31 (Kd.R_lt (by (with_reducible repeat (first | apply Kd.R_alloc | apply Kd.R_drewN | apply Kd.R_drew)); exact HO_0.out))) (Kd.R_lt (by (with_reducible repeat (first | apply Kd.R_alloc | apply Kd.R_drewN | apply Kd.R_drew)); exact HO_9.out))) (below_size bA)); replace HO_0 := as_ (Kd.R_elder' (by (with_reducible repeat (first | apply Kd.R_alloc | apply Kd.R_drewN | apply Kd.R_drew)); exact HO_0.out) (Kd.R_base ho31) hb); replace HO_6 := as_ (Kd.R_below (by (with_reducible repeat (first | apply Kd.R_alloc | apply Kd.R_drewN | apply Kd.R_drew)); exact HO_6.out) hb); replace HO_9 := as_ (Kd.R_elder' (by (with_reducible repeat (first | apply Kd.R_alloc | apply Kd.R_drewN | apply Kd.R_drew)); exact HO_9.out) (Kd.R_base ho31) hb); replace HO_10 := as_ (Kd.S_elder' (by (with_reducible repeat (first | apply Kd.S_alloc | apply Kd.S_drewN | apply Kd.S_drew)); exact HO_10.out) (Kd.R_base ho31) hb); replace HB := as_ (below_step bA hb); clear hb ho31)); try go_wp2_with (first | ((with_reducible refine gate_dst (N := 88) rfl ?_); (try (refine gate_guard (by rfl) ?_; dsimp only)); refine Kd.R_lit Kd.string _ 9 ?hg (N := 88) ?hd (xs := ([] : List ByteArray)) (inner := []) (ok := fun _ => True) (okp := fun _ => True) ?hr ?hp (fun _ hk => hk) trivial (Below.refl _ _) (Nat.le_refl _) (by simp) ?_; (case hd => rfl); (case hg => rfl); (case hr => first | (go_simp; done) | (go_simp; rfl)); (case hp => exact (Reps.none _ _)); intro v551 w30 ho31 hb hg_ hnew_; clear hg_ hnew_; (first | rw [← Ny550.out] at ho31 | (simp only [Int.reduceToNat] at ho31; rw [← Ny550.out] at ho31)); have HO552 := as_ (Kd.R_lower (Kd.R_new' (Kd.R_new' ho31 (Kd.R_lt (by (with_reducible repeat (first | apply Kd.R_alloc | apply Kd.R_drewN | apply Kd.R_drew)); exact HO_0.out))) (Kd.R_lt (by (with_reducible repeat (first | apply Kd.R_alloc | apply Kd.R_drewN | apply Kd.R_drew)); exact HO_9.out))) (below_size bA)); replace HO_0 := as_ (Kd.R_elder' (by (with_reducible repeat (first | apply Kd.R_alloc | apply Kd.R_drewN | apply Kd.R_drew)); exact HO_0.out) (Kd.R_base ho31) hb); replace HO_6 := as_ (Kd.R_below (by (with_reducible repeat (first | apply Kd.R_alloc | apply Kd.R_drewN | apply Kd.R_drew)); exact HO_6.out) hb); replace HO_9 := as_ (Kd.R_elder' (by (with_reducible repeat (first | apply Kd.R_alloc | apply Kd.R_drewN | apply Kd.R_drew)); exact HO_9.out) (Kd.R_base ho31) hb); replace HO_10 := as_ (Kd.S_elder' (by (with_reducible repeat (first | apply Kd.S_alloc | apply Kd.S_drewN | apply Kd.S_drew)); exact HO_10.out) (Kd.R_base ho31) hb); replace HB := as_ (below_step bA hb); clear hb ho31)))
     go_loopg [11, 12] kj20 (fun kq v11 v12 w' => ∃ (x11_3 : List ByteArray) (x12_3 : Int), v12 = .int .i64 x12_3 ∧ Aside0 (withylaw17_LevelAll.l1 kq t532 t535 t544 t547 x11_3 x12_3 = some r) ∧ Aside0 (kq ≤ kj20) ∧ Aside0 (Kd.R Kd.string 9 w' w.heap.size (fun k_ => some k_ ≠ (v545 : Value).ownBlock ∧ some k_ ≠ (v11 : Value).ownBlock) (.slice Ao7 t532.length co7) t532) ∧ Aside0 (Kd.R (Kd.int .i64) 3 w' w.heap.size (fun _ => True) (.slice Ao22 t535.length co22) t535) ∧ Aside0 (Kd.R Kd.string 9 w' w.heap.size (fun k_ => some k_ ≠ ((.slice Ao7 t532.length co7) : Value).ownBlock ∧ some k_ ≠ (v11 : Value).ownBlock) v545 t544) ∧ Aside0 (Kd.S (Kd.slice 9 Kd.string) 22 w' w.heap.size (fun k_ => some k_ ≠ ((.slice Ao7 t532.length co7) : Value).ownBlock ∧ some k_ ≠ (v545 : Value).ownBlock ∧ some k_ ≠ (v11 : Value).ownBlock) v548 t547) ∧ Aside0 (Kd.R Kd.string 9 w' w.heap.size (fun k_ => some k_ ≠ ((.slice Ao7 t532.length co7) : Value).ownBlock ∧ some k_ ≠ (v545 : Value).ownBlock) v11 x11_3) ∧ Aside0 (Below w.heap.size w w'))
     case atStart => exact ⟨(y550), (0), (by first | rfl | (simp; done) | (simp [*]; done)), H', ⟨Nat.le_refl _⟩, ⟨by (with_reducible repeat (first | apply Kd.R_alloc | apply Kd.R_drewN | apply Kd.R_drew)); exact HO_0.out⟩, ⟨by (with_reducible repeat (first | apply Kd.R_alloc | apply Kd.R_drewN | apply Kd.R_drew)); exact HO_6.out⟩, ⟨by (with_reducible repeat (first | apply Kd.R_alloc | apply Kd.R_drewN | apply Kd.R_drew)); exact HO_9.out⟩, ⟨by (with_reducible repeat (first | apply Kd.S_alloc | apply Kd.S_drewN | apply Kd.S_drew)); exact Kd.S_mono HO_10.out (fun _ hk => ⟨hk.1.1, ⟨hk.1.2, hk.2⟩⟩)⟩, ⟨by (with_reducible repeat (first | apply Kd.R_alloc | apply Kd.R_drewN | apply Kd.R_drew)); exact Kd.R_mono HO552.out (fun _ hk => ⟨hk.1.2, hk.2⟩)⟩, ⟨by repeat (first | (with_reducible first | exact HB.out | apply below_alloc | apply pw_below_drewN | apply below_drew1) | exact HB.out)⟩⟩
     case round =>
      clear H'
      try clear c1
      try clear c2
      try clear p2
      try clear c4
      try clear p5
      try clear q5
      try clear hx5
      try clear p6
      try clear c9
      try clear c9b0
      try clear c10
      try clear c10b0
      try clear c11
      try clear c11b0
      try clear c12
      try clear c12b0
      try clear c13
      try clear c13b0
      try clear c14
      try clear c14b0
      try clear c16
      try clear c16b0
      try clear c18
      try clear c18b0
      try clear c18b1
      try clear c25
      try clear c25b0
      try clear c25b1
      try clear c29
      try clear hx538_0
      try clear hx539_0
      try clear hx540_0
      try clear hx541_0
      try clear hx542_0
      try clear hx543_0
      try clear p2
      try clear p5
      try clear p538
      try clear p539
      try clear p540
      try clear p541
      try clear p542
      try clear p543
      try clear p6
      try clear q5
      try clear q538
      try clear q539
      try clear q540
      try clear q541
      try clear q542
      try clear q543
      obtain ⟨x11_3, x12_3, rfl, HA, HK3, HO_0, HO_6, HO_9, HO_10, HO_11, HB⟩ := hrel
      cases gk with
      | zero => exact absurd HA.out (by simp [withylaw17_LevelAll.l1])
      | succ k3 =>
       have H := HA.out
       clear HA
       simp only [withylaw17_LevelAll.l1] at H
       by_cases c32 : x12_3 < (t535.length : Int)
       rotate_left
       ·rw [if_neg c32] at H
        have c32b0 : decide (x12_3 < (t535.length : Int)) = false := decide_eq_false c32
        clear c32
        replace H := bM H
        obtain ⟨t553, A460, H⟩ := H
        replace H : (if t553 = true then ((withylaw17_fixed.f k3).bind fun t554 => (some t554)) else (none)) = some r := H
        have A46 := Aside0.mk A460
        clear A460
        by_cases c47 : t553 = true
        rotate_left
        ·replace c47 := Bool.eq_false_iff.mpr c47
         subst c47
         have H1 : (none) = some r := by rw [if_neg (show ¬ (false = true) by decide)] at H; exact H
         clear H
         have H := H1
         clear H1
         exact absurd H (by simp)
        subst c47
        have H1 : ((withylaw17_fixed.f k3).bind fun t554 => (some t554)) = some r := by rw [if_pos rfl] at H; exact H
        clear H
        have H := H1
        clear H1
        replace H := bM H
        obtain ⟨t554, A480, H⟩ := H
        replace H : (some t554) = some r := H
        have A48 := Aside0.mk A480
        clear A480
        obtain rfl := Option.some.inj H
        obtain ⟨Ao49, co49, eo49⟩ := Kd.R_slice HO_11.out
        subst eo49
        go_wp2_with (first | (go_at_call 17; (with_reducible refine (withyref01_Words.calls k3 _ _ x11_3 _ _ t532 true _ ?side1 ?side2 ?side3 ?side4 A46.out).mono ?_); (case side1 => repeat (first | exact (Kd.R_reads' HO_11.out).2.2 | (with_reducible refine Kd.C_alloc ?_ _) | (with_reducible refine Kd.C_drewN ?_ _) | (with_reducible refine Kd.C_drew ?_))); (case side2 => exact (Kd.R_reads' HO_11.out).2.1); (case side3 => repeat (first | exact (Kd.R_reads' HO_0.out).2.2 | (with_reducible refine Kd.C_alloc ?_ _) | (with_reducible refine Kd.C_drewN ?_ _) | (with_reducible refine Kd.C_drew ?_))); (case side4 => exact (Kd.R_reads' HO_0.out).2.1); rintro e w' ⟨rfl, ⟨nd, rfl⟩⟩; (try first | exact ⟨rfl, _, World.drewN_drewN _ _ _⟩ | exact ⟨rfl, _, Eq.trans (World.drewN_drewN _ _ _) (congrArg (World.drewN _) (Nat.add_assoc _ _ _))⟩)) | (go_at_call 26; (with_reducible refine (withylaw17_fixed.calls k3  t554 _ A48.out).mono ?_); rintro e w50 ⟨rfl, hb⟩; replace HO_0 := as_ (Kd.R_below (by (with_reducible repeat (first | apply Kd.R_alloc | apply Kd.R_drewN | apply Kd.R_drew)); exact HO_0.out) hb); replace HO_6 := as_ (Kd.R_below (by (with_reducible repeat (first | apply Kd.R_alloc | apply Kd.R_drewN | apply Kd.R_drew)); exact HO_6.out) hb); replace HO_9 := as_ (Kd.R_below (by (with_reducible repeat (first | apply Kd.R_alloc | apply Kd.R_drewN | apply Kd.R_drew)); exact HO_9.out) hb); replace HO_10 := as_ (Kd.S_below (by (with_reducible repeat (first | apply Kd.S_alloc | apply Kd.S_drewN | apply Kd.S_drew)); exact HO_10.out) hb); replace HO_11 := as_ (Kd.R_below (by (with_reducible repeat (first | apply Kd.R_alloc | apply Kd.R_drewN | apply Kd.R_drew)); exact HO_11.out) hb); replace HB := as_ (below_step bA hb); (try clear hb); (try clear hb2); (try clear hk); (try clear hi)))
        repeat (go_quiet (first | (go_at_call 17; (with_reducible refine (withyref01_Words.calls k3 _ _ x11_3 _ _ t532 true _ ?side1 ?side2 ?side3 ?side4 A46.out).mono ?_); (case side1 => repeat (first | exact (Kd.R_reads' HO_11.out).2.2 | (with_reducible refine Kd.C_alloc ?_ _) | (with_reducible refine Kd.C_drewN ?_ _) | (with_reducible refine Kd.C_drew ?_))); (case side2 => exact (Kd.R_reads' HO_11.out).2.1); (case side3 => repeat (first | exact (Kd.R_reads' HO_0.out).2.2 | (with_reducible refine Kd.C_alloc ?_ _) | (with_reducible refine Kd.C_drewN ?_ _) | (with_reducible refine Kd.C_drew ?_))); (case side4 => exact (Kd.R_reads' HO_0.out).2.1); rintro e w' ⟨rfl, ⟨nd, rfl⟩⟩; (try first | exact ⟨rfl, _, World.drewN_drewN _ _ _⟩ | exact ⟨rfl, _, Eq.trans (World.drewN_drewN _ _ _) (congrArg (World.drewN _) (Nat.add_assoc _ _ _))⟩)) | (go_at_call 26; (with_reducible refine (withylaw17_fixed.calls k3  t554 _ A48.out).mono ?_); rintro e w50 ⟨rfl, hb⟩; replace HO_0 := as_ (Kd.R_below (by (with_reducible repeat (first | apply Kd.R_alloc | apply Kd.R_drewN | apply Kd.R_drew)); exact HO_0.out) hb); replace HO_6 := as_ (Kd.R_below (by (with_reducible repeat (first | apply Kd.R_alloc | apply Kd.R_drewN | apply Kd.R_drew)); exact HO_6.out) hb); replace HO_9 := as_ (Kd.R_below (by (with_reducible repeat (first | apply Kd.R_alloc | apply Kd.R_drewN | apply Kd.R_drew)); exact HO_9.out) hb); replace HO_10 := as_ (Kd.S_below (by (with_reducible repeat (first | apply Kd.S_alloc | apply Kd.S_drewN | apply Kd.S_drew)); exact HO_10.out) hb); replace HO_11 := as_ (Kd.R_below (by (with_reducible repeat (first | apply Kd.R_alloc | apply Kd.R_drewN | apply Kd.R_drew)); exact HO_11.out) hb); replace HB := as_ (below_step bA hb); (try clear hb); (try clear hb2); (try clear hk); (try clear hi))); try go_wp2_with (first | (go_at_call 17; (with_reducible refine (withyref01_Words.calls k3 _ _ x11_3 _ _ t532 true _ ?side1 ?side2 ?side3 ?side4 A46.out).mono ?_); (case side1 => repeat (first | exact (Kd.R_reads' HO_11.out).2.2 | (with_reducible refine Kd.C_alloc ?_ _) | (with_reducible refine Kd.C_drewN ?_ _) | (with_reducible refine Kd.C_drew ?_))); (case side2 => exact (Kd.R_reads' HO_11.out).2.1); (case side3 => repeat (first | exact (Kd.R_reads' HO_0.out).2.2 | (with_reducible refine Kd.C_alloc ?_ _) | (with_reducible refine Kd.C_drewN ?_ _) | (with_reducible refine Kd.C_drew ?_))); (case side4 => exact (Kd.R_reads' HO_0.out).2.1); rintro e w' ⟨rfl, ⟨nd, rfl⟩⟩; (try first | exact ⟨rfl, _, World.drewN_drewN _ _ _⟩ | exact ⟨rfl, _, Eq.trans (World.drewN_drewN _ _ _) (congrArg (World.drewN _) (Nat.add_assoc _ _ _))⟩)) | (go_at_call 26; (with_reducible refine (withylaw17_fixed.calls k3  t554 _ A48.out).mono ?_); rintro e w50 ⟨rfl, hb⟩; replace HO_0 := as_ (Kd.R_below (by (with_reducible repeat (first | apply Kd.R_alloc | apply Kd.R_drewN | apply Kd.R_drew)); exact HO_0.out) hb); replace HO_6 := as_ (Kd.R_below (by (with_reducible repeat (first | apply Kd.R_alloc | apply Kd.R_drewN | apply Kd.R_drew)); exact HO_6.out) hb); replace HO_9 := as_ (Kd.R_below (by (with_reducible repeat (first | apply Kd.R_alloc | apply Kd.R_drewN | apply Kd.R_drew)); exact HO_9.out) hb); replace HO_10 := as_ (Kd.S_below (by (with_reducible repeat (first | apply Kd.S_alloc | apply Kd.S_drewN | apply Kd.S_drew)); exact HO_10.out) hb); replace HO_11 := as_ (Kd.R_below (by (with_reducible repeat (first | apply Kd.R_alloc | apply Kd.R_drewN | apply Kd.R_drew)); exact HO_11.out) hb); replace HB := as_ (below_step bA hb); (try clear hb); (try clear hb2); (try clear hk); (try clear hi))))
        go_ret
        exact ⟨eW, by repeat (first | (with_reducible first | exact HB.out | apply below_alloc | apply pw_below_drewN | apply below_drew1) | exact HB.out)⟩
       rw [if_pos c32] at H
       have c32b0 : decide (x12_3 < (t535.length : Int)) = true := decide_eq_true c32
       clear c32
       by_cases c33 : 0 ≤ x12_3
       rotate_left
       ·rw [if_neg c33] at H
        exact absurd H (by simp)
       rw [if_pos c33] at H
       have c33b0 : decide (0 ≤ x12_3) = true := decide_eq_true c33
       clear c33
       by_cases c34 : x12_3 < (t547.length : Int)
       rotate_left
       ·rw [if_neg c34] at H
        exact absurd H (by simp)
       rw [if_pos c34] at H
       have c34b0 : decide (x12_3 < (t547.length : Int)) = true := decide_eq_true c34
       clear c34
       by_cases c35 : ((rd_L5 t547 x12_3).length : Int) = (wrap64 ((rd t535 x12_3) - 1))
       rotate_left
       ·rw [if_neg c35] at H
        exact absurd H (by simp)
       rw [if_pos c35] at H
       have c35b0 : (((rd_L5 t547 x12_3).length : Int) == (wrap64 ((rd t535 x12_3) - 1))) = true := beq_iff_eq.mpr c35
       have c35b1 : (((rd_L5 t547 x12_3).length : Int) != (wrap64 ((rd t535 x12_3) - 1))) = false := bne_eq_false_iff_eq.mpr c35
       clear c35
       by_cases c36 : x11_3.length + (rd_L5 t547 x12_3).length < 8796093022208
       rotate_left
       ·rw [if_neg c36] at H
        exact absurd H (by simp)
       rw [if_pos c36] at H
       have LMc36 := Aside0.mk c36
       clear c36
       obtain ⟨y558, hy558⟩ : ∃ y_ : List ByteArray, y_ = (x11_3 ++ (rd_L5 t547 x12_3)) := ⟨_, rfl⟩
       replace H : (if x12_3 < (t544.length : Int) then (if y558.length < 8796093022208 then (withylaw17_LevelAll.l1 k3 t532 t535 t544 t547 (y558 ++ [rdOf ByteArray.empty t544 x12_3]) (wrap64 (x12_3 + 1))) else (none)) else (withylaw17_LevelAll.l1 k3 t532 t535 t544 t547 y558 (wrap64 (x12_3 + 1)))) = some r := by first | (rw [hy558]; with_reducible exact H) | (have H2_ := (Option.bind_some _ _).symm.trans H; rw [hy558]; with_reducible exact H2_) | (have H2_ := (Option.bind_some _ _).symm.trans H; with_reducible exact H2_) | with_reducible exact H | (rw [hy558]; exact H) | exact H
       have Ny558 := Aside0.mk hy558
       clear hy558
       by_cases c37 : x12_3 < (t544.length : Int)
       rotate_left
       ·rw [if_neg c37] at H
        have c37b0 : decide (x12_3 < (t544.length : Int)) = false := decide_eq_false c37
        clear c37
        have H' := Aside0.mk H
        clear H
        obtain ⟨Ao43, co43, eo43⟩ := Kd.S_slice HO_10.out
        subst eo43
        have p555 : 0 ≤ (x12_3 : Int) := of_decide_eq_true aM
        have q555 : x12_3 < (t547.length : Int) := of_decide_eq_true aM
        obtain ⟨ad555, A555_0, c555_0, e555, hx555_0, hl555_0, hi555_0⟩ := at_L5 (Kd.S_reads' HO_10.out).2.2 x12_3 p555 q555
        cases e555
        obtain ⟨ce555, hce555, hMe555, hcc555⟩ := Kd.S_get HO_10.out [] x12_3 p555 (by first | exact q555 | exact of_decide_eq_true aM | (have e_ := (Kd.S_reads' HO_10.out).1; omega))
        obtain ⟨ve555_0, rfl, ge555_0⟩ := hMe555
        have hv555_0 := hcc555 0 _ rfl
        rw [Nat.add_zero, show ((Kd.slice 9 Kd.string)).sz = 1 from rfl, Nat.mul_one] at hv555_0
        replace hv555_0 := Option.some.inj (hv555_0.symm.trans hx555_0)
        rw [hv555_0] at ge555_0
        have HL555_0 := as_ (show Kd.R Kd.string 9 _ _ _ _ (rd_L5 t547 x12_3) from ge555_0)
        clear hv555_0 ge555_0
        clear hcc555 hce555
        have HR555_0 := Aside0.mk hi555_0
        have HC555_0 := Aside0.mk hl555_0
        clear hi555_0 hl555_0
        replace p555 := eq_true p555
        replace q555 := eq_true q555
        have p556 : 0 ≤ (x12_3 : Int) := of_decide_eq_true aM
        have q556 : x12_3 < (t535.length : Int) := of_decide_eq_true aM
        obtain ⟨ad556, e556, hx556_0⟩ := Kd.at_int (Kd.R_reads' HO_6.out).2.2 x12_3 p556 q556
        cases e556
        replace p556 := eq_true p556
        replace q556 := eq_true q556
        have p557 : 0 ≤ (x12_3 : Int) := of_decide_eq_true aM
        have q557 : x12_3 < (t547.length : Int) := of_decide_eq_true aM
        obtain ⟨ad557, A557_0, c557_0, e557, hx557_0, hl557_0, hi557_0⟩ := at_L5 (Kd.S_reads' HO_10.out).2.2 x12_3 p557 q557
        obtain rfl : ad555 = ad557 := (by injection e557)
        obtain ⟨ce557, hce557, hMe557, hcc557⟩ := Kd.S_get HO_10.out [] x12_3 p557 (by first | exact q557 | exact of_decide_eq_true aM | (have e_ := (Kd.S_reads' HO_10.out).1; omega))
        obtain ⟨ve557_0, rfl, ge557_0⟩ := hMe557
        have hv557_0 := hcc557 0 _ rfl
        rw [Nat.add_zero, show ((Kd.slice 9 Kd.string)).sz = 1 from rfl, Nat.mul_one] at hv557_0
        replace hv557_0 := Option.some.inj (hv557_0.symm.trans hx557_0)
        rw [hv557_0] at ge557_0
        have HL557_0 := as_ (show Kd.R Kd.string 9 _ _ _ _ (rd_L5 t547 x12_3) from ge557_0)
        clear hv557_0 ge557_0
        clear hcc557 hce557
        have HR557_0 := Aside0.mk hi557_0
        have HC557_0 := Aside0.mk hl557_0
        clear hi557_0 hl557_0
        replace p557 := eq_true p557
        replace q557 := eq_true q557
        have ea_ := Option.some.inj (hx555_0.symm.trans hx557_0)
        injection ea_ with ea_ en_ ec_
        subst ea_
        subst ec_
        clear en_
        go_wp2_with (first | ((with_reducible refine gate_builtin (b := .append) (xs := #[.tmp 106, .tmp 110]) rfl ?_); (try (refine gate_guard (by rfl) ?_; dsimp only)); at_builtin; refine Kd.R_append_rows Kd.string (w0 := w) w.heap.size rfl (.tmp 106) (.tmp 110) 22 9 (.string ⟨#[]⟩) 16 rfl Try.underlying22 info9 rfl (by decide) (by omega) u11 x11_3 (rd_L5 t547 x12_3) _ _ _ (fun k_ => some k_ ≠ (.slice Ao7 t532.length co7 : Value).ownBlock ∧ some k_ ≠ (v545 : Value).ownBlock) (fun _ => False) rfl rfl ?aO ?aR (fun _ _ h => h) (fun _ h => h.elim) ?aF ?aB ?aS ?aL ?_; (case aR => repeat (first | exact (by repeat (first | (with_reducible exact HR557_0.out) | (with_reducible refine Kd.C_alloc ?_ _) | (with_reducible refine Kd.C_drewN ?_ _) | (with_reducible refine Kd.C_drew ?_) | exact HR557_0.out)) | (with_reducible refine Kd.C_alloc ?_ _) | (with_reducible refine Kd.C_drewN ?_ _) | (with_reducible refine Kd.C_drew ?_))); (case aB => exact bA); (case aF => exact (fun k_ hk => ⟨Kd.fresh' (Kd.R_lt (by (with_reducible repeat (first | apply Kd.R_alloc | apply Kd.R_drewN | apply Kd.R_drew)); exact HO_0.out)) k_ hk, Kd.fresh' (Kd.R_lt (by (with_reducible repeat (first | apply Kd.R_alloc | apply Kd.R_drewN | apply Kd.R_drew)); exact HO_9.out)) k_ hk⟩)); (case aO => exact (by (with_reducible repeat (first | apply Kd.R_alloc | apply Kd.R_drewN | apply Kd.R_drew)); exact HO_11.out)); (case aS => exact (below_size bA)); (case aL => have := LMc36.out; omega); intro v559 w44 ho hb hg hat; rw [← Ny558.out] at ho; have HO560 := as_ (ho); replace HO_0 := as_ (Kd.R_after (ok := (fun k_ => some k_ ≠ (v545 : Value).ownBlock)) (by (with_reducible repeat (first | apply Kd.R_alloc | apply Kd.R_drewN | apply Kd.R_drew)); exact HO_0.out) hg hat); replace HO_6 := as_ (Kd.R_over' (by (with_reducible repeat (first | apply Kd.R_alloc | apply Kd.R_drewN | apply Kd.R_drew)); exact HO_6.out) (Kd.R_typed (by (with_reducible repeat (first | apply Kd.R_alloc | apply Kd.R_drewN | apply Kd.R_drew)); exact HO_11.out)) (by decide) hg); replace HO_9 := as_ (Kd.R_after (ok := (fun k_ => some k_ ≠ (.slice Ao7 t532.length co7 : Value).ownBlock)) (by (with_reducible repeat (first | apply Kd.R_alloc | apply Kd.R_drewN | apply Kd.R_drew)); exact HO_9.out) hg hat); replace HO_10 := as_ (Kd.S_after (ok := (fun k_ => some k_ ≠ (.slice Ao7 t532.length co7 : Value).ownBlock ∧ some k_ ≠ (v545 : Value).ownBlock)) (by (with_reducible repeat (first | apply Kd.S_alloc | apply Kd.S_drewN | apply Kd.S_drew)); exact Kd.S_mono HO_10.out (fun _ hk => ⟨⟨hk.1, hk.2.1⟩, hk.2.2⟩)) hg hat); replace HL555_0 := as_ (Kd.R_after (ok := (fun k_ => some k_ ≠ (.slice Ao7 t532.length co7 : Value).ownBlock ∧ some k_ ≠ (v545 : Value).ownBlock ∧ some k_ ≠ (.slice (some ad555) t547.length co43 : Value).ownBlock)) (by (with_reducible repeat (first | apply Kd.R_alloc | apply Kd.R_drewN | apply Kd.R_drew)); exact Kd.R_mono HL555_0.out (fun _ hk => ⟨⟨hk.1.1, ⟨hk.1.2.1, hk.2⟩⟩, hk.1.2.2⟩)) hg hat); replace HL557_0 := as_ (Kd.R_after (ok := (fun k_ => some k_ ≠ (.slice Ao7 t532.length co7 : Value).ownBlock ∧ some k_ ≠ (v545 : Value).ownBlock ∧ some k_ ≠ (.slice (some ad555) t547.length co43 : Value).ownBlock)) (by (with_reducible repeat (first | apply Kd.R_alloc | apply Kd.R_drewN | apply Kd.R_drew)); exact Kd.R_mono HL557_0.out (fun _ hk => ⟨⟨hk.1.1, ⟨hk.1.2.1, hk.2⟩⟩, hk.1.2.2⟩)) hg hat); replace HB := as_ (hb); clear HO_11; clear ho hb hg hat; obtain ⟨Ao45, co45, eo45⟩ := Kd.R_slice HO_9.out; subst eo45))
        repeat (go_quiet (first | ((with_reducible refine gate_builtin (b := .append) (xs := #[.tmp 106, .tmp 110]) rfl ?_); (try (refine gate_guard (by rfl) ?_; dsimp only)); at_builtin; refine Kd.R_append_rows Kd.string (w0 := w) w.heap.size rfl (.tmp 106) (.tmp 110) 22 9 (.string ⟨#[]⟩) 16 rfl Try.underlying22 info9 rfl (by decide) (by omega) u11 x11_3 (rd_L5 t547 x12_3) _ _ _ (fun k_ => some k_ ≠ (.slice Ao7 t532.length co7 : Value).ownBlock ∧ some k_ ≠ (v545 : Value).ownBlock) (fun _ => False) rfl rfl ?aO ?aR (fun _ _ h => h) (fun _ h => h.elim) ?aF ?aB ?aS ?aL ?_; (case aR => repeat (first | exact (by repeat (first | (with_reducible exact HR557_0.out) | (with_reducible refine Kd.C_alloc ?_ _) | (with_reducible refine Kd.C_drewN ?_ _) | (with_reducible refine Kd.C_drew ?_) | exact HR557_0.out)) | (with_reducible refine Kd.C_alloc ?_ _) | (with_reducible refine Kd.C_drewN ?_ _) | (with_reducible refine Kd.C_drew ?_))); (case aB => exact bA); (case aF => exact (fun k_ hk => ⟨Kd.fresh' (Kd.R_lt (by (with_reducible repeat (first | apply Kd.R_alloc | apply Kd.R_drewN | apply Kd.R_drew)); exact HO_0.out)) k_ hk, Kd.fresh' (Kd.R_lt (by (with_reducible repeat (first | apply Kd.R_alloc | apply Kd.R_drewN | apply Kd.R_drew)); exact HO_9.out)) k_ hk⟩)); (case aO => exact (by (with_reducible repeat (first | apply Kd.R_alloc | apply Kd.R_drewN | apply Kd.R_drew)); exact HO_11.out)); (case aS => exact (below_size bA)); (case aL => have := LMc36.out; omega); intro v559 w44 ho hb hg hat; rw [← Ny558.out] at ho; have HO560 := as_ (ho); replace HO_0 := as_ (Kd.R_after (ok := (fun k_ => some k_ ≠ (v545 : Value).ownBlock)) (by (with_reducible repeat (first | apply Kd.R_alloc | apply Kd.R_drewN | apply Kd.R_drew)); exact HO_0.out) hg hat); replace HO_6 := as_ (Kd.R_over' (by (with_reducible repeat (first | apply Kd.R_alloc | apply Kd.R_drewN | apply Kd.R_drew)); exact HO_6.out) (Kd.R_typed (by (with_reducible repeat (first | apply Kd.R_alloc | apply Kd.R_drewN | apply Kd.R_drew)); exact HO_11.out)) (by decide) hg); replace HO_9 := as_ (Kd.R_after (ok := (fun k_ => some k_ ≠ (.slice Ao7 t532.length co7 : Value).ownBlock)) (by (with_reducible repeat (first | apply Kd.R_alloc | apply Kd.R_drewN | apply Kd.R_drew)); exact HO_9.out) hg hat); replace HO_10 := as_ (Kd.S_after (ok := (fun k_ => some k_ ≠ (.slice Ao7 t532.length co7 : Value).ownBlock ∧ some k_ ≠ (v545 : Value).ownBlock)) (by (with_reducible repeat (first | apply Kd.S_alloc | apply Kd.S_drewN | apply Kd.S_drew)); exact Kd.S_mono HO_10.out (fun _ hk => ⟨⟨hk.1, hk.2.1⟩, hk.2.2⟩)) hg hat); replace HL555_0 := as_ (Kd.R_after (ok := (fun k_ => some k_ ≠ (.slice Ao7 t532.length co7 : Value).ownBlock ∧ some k_ ≠ (v545 : Value).ownBlock ∧ some k_ ≠ (.slice (some ad555) t547.length co43 : Value).ownBlock)) (by (with_reducible repeat (first | apply Kd.R_alloc | apply Kd.R_drewN | apply Kd.R_drew)); exact Kd.R_mono HL555_0.out (fun _ hk => ⟨⟨hk.1.1, ⟨hk.1.2.1, hk.2⟩⟩, hk.1.2.2⟩)) hg hat); replace HL557_0 := as_ (Kd.R_after (ok := (fun k_ => some k_ ≠ (.slice Ao7 t532.length co7 : Value).ownBlock ∧ some k_ ≠ (v545 : Value).ownBlock ∧ some k_ ≠ (.slice (some ad555) t547.length co43 : Value).ownBlock)) (by (with_reducible repeat (first | apply Kd.R_alloc | apply Kd.R_drewN | apply Kd.R_drew)); exact Kd.R_mono HL557_0.out (fun _ hk => ⟨⟨hk.1.1, ⟨hk.1.2.1, hk.2⟩⟩, hk.1.2.2⟩)) hg hat); replace HB := as_ (hb); clear HO_11; clear ho hb hg hat; obtain ⟨Ao45, co45, eo45⟩ := Kd.R_slice HO_9.out; subst eo45)); try go_wp2_with (first | ((with_reducible refine gate_builtin (b := .append) (xs := #[.tmp 106, .tmp 110]) rfl ?_); (try (refine gate_guard (by rfl) ?_; dsimp only)); at_builtin; refine Kd.R_append_rows Kd.string (w0 := w) w.heap.size rfl (.tmp 106) (.tmp 110) 22 9 (.string ⟨#[]⟩) 16 rfl Try.underlying22 info9 rfl (by decide) (by omega) u11 x11_3 (rd_L5 t547 x12_3) _ _ _ (fun k_ => some k_ ≠ (.slice Ao7 t532.length co7 : Value).ownBlock ∧ some k_ ≠ (v545 : Value).ownBlock) (fun _ => False) rfl rfl ?aO ?aR (fun _ _ h => h) (fun _ h => h.elim) ?aF ?aB ?aS ?aL ?_; (case aR => repeat (first | exact (by repeat (first | (with_reducible exact HR557_0.out) | (with_reducible refine Kd.C_alloc ?_ _) | (with_reducible refine Kd.C_drewN ?_ _) | (with_reducible refine Kd.C_drew ?_) | exact HR557_0.out)) | (with_reducible refine Kd.C_alloc ?_ _) | (with_reducible refine Kd.C_drewN ?_ _) | (with_reducible refine Kd.C_drew ?_))); (case aB => exact bA); (case aF => exact (fun k_ hk => ⟨Kd.fresh' (Kd.R_lt (by (with_reducible repeat (first | apply Kd.R_alloc | apply Kd.R_drewN | apply Kd.R_drew)); exact HO_0.out)) k_ hk, Kd.fresh' (Kd.R_lt (by (with_reducible repeat (first | apply Kd.R_alloc | apply Kd.R_drewN | apply Kd.R_drew)); exact HO_9.out)) k_ hk⟩)); (case aO => exact (by (with_reducible repeat (first | apply Kd.R_alloc | apply Kd.R_drewN | apply Kd.R_drew)); exact HO_11.out)); (case aS => exact (below_size bA)); (case aL => have := LMc36.out; omega); intro v559 w44 ho hb hg hat; rw [← Ny558.out] at ho; have HO560 := as_ (ho); replace HO_0 := as_ (Kd.R_after (ok := (fun k_ => some k_ ≠ (v545 : Value).ownBlock)) (by (with_reducible repeat (first | apply Kd.R_alloc | apply Kd.R_drewN | apply Kd.R_drew)); exact HO_0.out) hg hat); replace HO_6 := as_ (Kd.R_over' (by (with_reducible repeat (first | apply Kd.R_alloc | apply Kd.R_drewN | apply Kd.R_drew)); exact HO_6.out) (Kd.R_typed (by (with_reducible repeat (first | apply Kd.R_alloc | apply Kd.R_drewN | apply Kd.R_drew)); exact HO_11.out)) (by decide) hg); replace HO_9 := as_ (Kd.R_after (ok := (fun k_ => some k_ ≠ (.slice Ao7 t532.length co7 : Value).ownBlock)) (by (with_reducible repeat (first | apply Kd.R_alloc | apply Kd.R_drewN | apply Kd.R_drew)); exact HO_9.out) hg hat); replace HO_10 := as_ (Kd.S_after (ok := (fun k_ => some k_ ≠ (.slice Ao7 t532.length co7 : Value).ownBlock ∧ some k_ ≠ (v545 : Value).ownBlock)) (by (with_reducible repeat (first | apply Kd.S_alloc | apply Kd.S_drewN | apply Kd.S_drew)); exact Kd.S_mono HO_10.out (fun _ hk => ⟨⟨hk.1, hk.2.1⟩, hk.2.2⟩)) hg hat); replace HL555_0 := as_ (Kd.R_after (ok := (fun k_ => some k_ ≠ (.slice Ao7 t532.length co7 : Value).ownBlock ∧ some k_ ≠ (v545 : Value).ownBlock ∧ some k_ ≠ (.slice (some ad555) t547.length co43 : Value).ownBlock)) (by (with_reducible repeat (first | apply Kd.R_alloc | apply Kd.R_drewN | apply Kd.R_drew)); exact Kd.R_mono HL555_0.out (fun _ hk => ⟨⟨hk.1.1, ⟨hk.1.2.1, hk.2⟩⟩, hk.1.2.2⟩)) hg hat); replace HL557_0 := as_ (Kd.R_after (ok := (fun k_ => some k_ ≠ (.slice Ao7 t532.length co7 : Value).ownBlock ∧ some k_ ≠ (v545 : Value).ownBlock ∧ some k_ ≠ (.slice (some ad555) t547.length co43 : Value).ownBlock)) (by (with_reducible repeat (first | apply Kd.R_alloc | apply Kd.R_drewN | apply Kd.R_drew)); exact Kd.R_mono HL557_0.out (fun _ hk => ⟨⟨hk.1.1, ⟨hk.1.2.1, hk.2⟩⟩, hk.1.2.2⟩)) hg hat); replace HB := as_ (hb); clear HO_11; clear ho hb hg hat; obtain ⟨Ao45, co45, eo45⟩ := Kd.R_slice HO_9.out; subst eo45)))
        go_roundg k3
        case measure => have := HK1.out; have := HJ20.out; have := HK3.out; omega
        case rel => exact ⟨(y558), (wrap64 (x12_3 + 1)), (by first | rfl | (simp; done) | (simp [*]; done)), H', ⟨by have := HK1.out; have := HJ20.out; have := HK3.out; omega⟩, ⟨by (with_reducible repeat (first | apply Kd.R_alloc | apply Kd.R_drewN | apply Kd.R_drew)); exact HO_0.out⟩, ⟨by (with_reducible repeat (first | apply Kd.R_alloc | apply Kd.R_drewN | apply Kd.R_drew)); exact HO_6.out⟩, ⟨by (with_reducible repeat (first | apply Kd.R_alloc | apply Kd.R_drewN | apply Kd.R_drew)); exact HO_9.out⟩, ⟨by (with_reducible repeat (first | apply Kd.S_alloc | apply Kd.S_drewN | apply Kd.S_drew)); exact Kd.S_mono HO_10.out (fun _ hk => ⟨hk.1.1, ⟨hk.1.2, hk.2⟩⟩)⟩, ⟨by (with_reducible repeat (first | apply Kd.R_alloc | apply Kd.R_drewN | apply Kd.R_drew)); exact HO560.out⟩, ⟨by repeat (first | (with_reducible first | exact HB.out | apply below_alloc | apply pw_below_drewN | apply below_drew1) | exact HB.out)⟩⟩
       rw [if_pos c37] at H
       have c37b0 : decide (x12_3 < (t544.length : Int)) = true := decide_eq_true c37
       clear c37
       by_cases c38 : y558.length < 8796093022208
       rotate_left
       ·rw [if_neg c38] at H
        exact absurd H (by simp)
       rw [if_pos c38] at H
       have LMc38 := Aside0.mk c38
       clear c38
       obtain ⟨y562, hy562⟩ : ∃ y_ : List ByteArray, y_ = (y558 ++ [rdOf ByteArray.empty t544 x12_3]) := ⟨_, rfl⟩
       replace H : (withylaw17_LevelAll.l1 k3 t532 t535 t544 t547 y562 (wrap64 (x12_3 + 1))) = some r := by first | (rw [hy562]; with_reducible exact H) | (have H2_ := (Option.bind_some _ _).symm.trans H; rw [hy562]; with_reducible exact H2_) | (have H2_ := (Option.bind_some _ _).symm.trans H; with_reducible exact H2_) | with_reducible exact H | (rw [hy562]; exact H) | exact H
       have Ny562 := Aside0.mk hy562
       clear hy562
       have H' := Aside0.mk H
       clear H
       obtain ⟨Ao39, co39, eo39⟩ := Kd.S_slice HO_10.out
       subst eo39
       have p555 : 0 ≤ (x12_3 : Int) := of_decide_eq_true aM
       have q555 : x12_3 < (t547.length : Int) := of_decide_eq_true aM
       obtain ⟨ad555, A555_0, c555_0, e555, hx555_0, hl555_0, hi555_0⟩ := at_L5 (Kd.S_reads' HO_10.out).2.2 x12_3 p555 q555
       cases e555
       obtain ⟨ce555, hce555, hMe555, hcc555⟩ := Kd.S_get HO_10.out [] x12_3 p555 (by first | exact q555 | exact of_decide_eq_true aM | (have e_ := (Kd.S_reads' HO_10.out).1; omega))
       obtain ⟨ve555_0, rfl, ge555_0⟩ := hMe555
       have hv555_0 := hcc555 0 _ rfl
       rw [Nat.add_zero, show ((Kd.slice 9 Kd.string)).sz = 1 from rfl, Nat.mul_one] at hv555_0
       replace hv555_0 := Option.some.inj (hv555_0.symm.trans hx555_0)
       rw [hv555_0] at ge555_0
       have HL555_0 := as_ (show Kd.R Kd.string 9 _ _ _ _ (rd_L5 t547 x12_3) from ge555_0)
       clear hv555_0 ge555_0
       clear hcc555 hce555
       have HR555_0 := Aside0.mk hi555_0
       have HC555_0 := Aside0.mk hl555_0
       clear hi555_0 hl555_0
       replace p555 := eq_true p555
       replace q555 := eq_true q555
       have p556 : 0 ≤ (x12_3 : Int) := of_decide_eq_true aM
       have q556 : x12_3 < (t535.length : Int) := of_decide_eq_true aM
       obtain ⟨ad556, e556, hx556_0⟩ := Kd.at_int (Kd.R_reads' HO_6.out).2.2 x12_3 p556 q556
       cases e556
       replace p556 := eq_true p556
       replace q556 := eq_true q556
       have p557 : 0 ≤ (x12_3 : Int) := of_decide_eq_true aM
       have q557 : x12_3 < (t547.length : Int) := of_decide_eq_true aM
       obtain ⟨ad557, A557_0, c557_0, e557, hx557_0, hl557_0, hi557_0⟩ := at_L5 (Kd.S_reads' HO_10.out).2.2 x12_3 p557 q557
       obtain rfl : ad555 = ad557 := (by injection e557)
       obtain ⟨ce557, hce557, hMe557, hcc557⟩ := Kd.S_get HO_10.out [] x12_3 p557 (by first | exact q557 | exact of_decide_eq_true aM | (have e_ := (Kd.S_reads' HO_10.out).1; omega))
       obtain ⟨ve557_0, rfl, ge557_0⟩ := hMe557
       have hv557_0 := hcc557 0 _ rfl
       rw [Nat.add_zero, show ((Kd.slice 9 Kd.string)).sz = 1 from rfl, Nat.mul_one] at hv557_0
       replace hv557_0 := Option.some.inj (hv557_0.symm.trans hx557_0)
       rw [hv557_0] at ge557_0
       have HL557_0 := as_ (show Kd.R Kd.string 9 _ _ _ _ (rd_L5 t547 x12_3) from ge557_0)
       clear hv557_0 ge557_0
       clear hcc557 hce557
       have HR557_0 := Aside0.mk hi557_0
       have HC557_0 := Aside0.mk hl557_0
       clear hi557_0 hl557_0
       replace p557 := eq_true p557
       replace q557 := eq_true q557
       have ea_ := Option.some.inj (hx555_0.symm.trans hx557_0)
       injection ea_ with ea_ en_ ec_
       subst ea_
       subst ec_
       clear en_
       go_wp2_with (first | ((with_reducible refine gate_builtin (b := .append) (xs := #[.tmp 106, .tmp 110]) rfl ?_); (try (refine gate_guard (by rfl) ?_; dsimp only)); at_builtin; refine Kd.R_append_rows Kd.string (w0 := w) w.heap.size rfl (.tmp 106) (.tmp 110) 22 9 (.string ⟨#[]⟩) 16 rfl Try.underlying22 info9 rfl (by decide) (by omega) u11 x11_3 (rd_L5 t547 x12_3) _ _ _ (fun k_ => some k_ ≠ (.slice Ao7 t532.length co7 : Value).ownBlock ∧ some k_ ≠ (v545 : Value).ownBlock) (fun _ => False) rfl rfl ?aO ?aR (fun _ _ h => h) (fun _ h => h.elim) ?aF ?aB ?aS ?aL ?_; (case aR => repeat (first | exact (by repeat (first | (with_reducible exact HR557_0.out) | (with_reducible refine Kd.C_alloc ?_ _) | (with_reducible refine Kd.C_drewN ?_ _) | (with_reducible refine Kd.C_drew ?_) | exact HR557_0.out)) | (with_reducible refine Kd.C_alloc ?_ _) | (with_reducible refine Kd.C_drewN ?_ _) | (with_reducible refine Kd.C_drew ?_))); (case aB => exact bA); (case aF => exact (fun k_ hk => ⟨Kd.fresh' (Kd.R_lt (by (with_reducible repeat (first | apply Kd.R_alloc | apply Kd.R_drewN | apply Kd.R_drew)); exact HO_0.out)) k_ hk, Kd.fresh' (Kd.R_lt (by (with_reducible repeat (first | apply Kd.R_alloc | apply Kd.R_drewN | apply Kd.R_drew)); exact HO_9.out)) k_ hk⟩)); (case aO => exact (by (with_reducible repeat (first | apply Kd.R_alloc | apply Kd.R_drewN | apply Kd.R_drew)); exact HO_11.out)); (case aS => exact (below_size bA)); (case aL => have := LMc36.out; omega); intro v559 w40 ho hb hg hat; rw [← Ny558.out] at ho; have HO560 := as_ (ho); replace HO_0 := as_ (Kd.R_after (ok := (fun k_ => some k_ ≠ (v545 : Value).ownBlock)) (by (with_reducible repeat (first | apply Kd.R_alloc | apply Kd.R_drewN | apply Kd.R_drew)); exact HO_0.out) hg hat); replace HO_6 := as_ (Kd.R_over' (by (with_reducible repeat (first | apply Kd.R_alloc | apply Kd.R_drewN | apply Kd.R_drew)); exact HO_6.out) (Kd.R_typed (by (with_reducible repeat (first | apply Kd.R_alloc | apply Kd.R_drewN | apply Kd.R_drew)); exact HO_11.out)) (by decide) hg); replace HO_9 := as_ (Kd.R_after (ok := (fun k_ => some k_ ≠ (.slice Ao7 t532.length co7 : Value).ownBlock)) (by (with_reducible repeat (first | apply Kd.R_alloc | apply Kd.R_drewN | apply Kd.R_drew)); exact HO_9.out) hg hat); replace HO_10 := as_ (Kd.S_after (ok := (fun k_ => some k_ ≠ (.slice Ao7 t532.length co7 : Value).ownBlock ∧ some k_ ≠ (v545 : Value).ownBlock)) (by (with_reducible repeat (first | apply Kd.S_alloc | apply Kd.S_drewN | apply Kd.S_drew)); exact Kd.S_mono HO_10.out (fun _ hk => ⟨⟨hk.1, hk.2.1⟩, hk.2.2⟩)) hg hat); replace HL555_0 := as_ (Kd.R_after (ok := (fun k_ => some k_ ≠ (.slice Ao7 t532.length co7 : Value).ownBlock ∧ some k_ ≠ (v545 : Value).ownBlock ∧ some k_ ≠ (.slice (some ad555) t547.length co39 : Value).ownBlock)) (by (with_reducible repeat (first | apply Kd.R_alloc | apply Kd.R_drewN | apply Kd.R_drew)); exact Kd.R_mono HL555_0.out (fun _ hk => ⟨⟨hk.1.1, ⟨hk.1.2.1, hk.2⟩⟩, hk.1.2.2⟩)) hg hat); replace HL557_0 := as_ (Kd.R_after (ok := (fun k_ => some k_ ≠ (.slice Ao7 t532.length co7 : Value).ownBlock ∧ some k_ ≠ (v545 : Value).ownBlock ∧ some k_ ≠ (.slice (some ad555) t547.length co39 : Value).ownBlock)) (by (with_reducible repeat (first | apply Kd.R_alloc | apply Kd.R_drewN | apply Kd.R_drew)); exact Kd.R_mono HL557_0.out (fun _ hk => ⟨⟨hk.1.1, ⟨hk.1.2.1, hk.2⟩⟩, hk.1.2.2⟩)) hg hat); replace HB := as_ (hb); clear HO_11; clear ho hb hg hat; obtain ⟨Ao41, co41, eo41⟩ := Kd.R_slice HO_9.out; subst eo41; have p561 : 0 ≤ (x12_3 : Int) := of_decide_eq_true aM; have q561 : x12_3 < (t544.length : Int) := of_decide_eq_true aM; obtain ⟨ad561, e561, hx561_0⟩ := Kd.at_string (Kd.R_reads' HO_9.out).2.2 x12_3 p561 q561; cases e561; replace p561 := eq_true p561; replace q561 := eq_true q561) | ((with_reducible refine gate_builtin (b := .append) (xs := #[.tmp 116, .tmp 121]) rfl ?_); (try (refine gate_guard (by rfl) ?_; dsimp only)); at_builtin; refine Kd.R_append Kd.string (w0 := w) w.heap.size rfl (.tmp 116) (.tmp 121) 22 9 (.string ⟨#[]⟩) 16 rfl Try.underlying22 info9 rfl (by decide) (by omega) v559 y558 (rdOf ByteArray.empty t544 x12_3) [.string (rdOf ByteArray.empty t544 x12_3)] (fun k_ => some k_ ≠ (.slice Ao7 t532.length co7 : Value).ownBlock ∧ some k_ ≠ (.slice (some ad561) t544.length co41 : Value).ownBlock) (fun _ => False) rfl rfl ?aP (fun _ hk => hk.elim) ?aF ?aO ?aB ?aS ?aL ?_; (case aP => exact rfl); (case aB => exact bA); (case aF => exact (fun k_ hk => ⟨Kd.fresh' (Kd.R_lt (by (with_reducible repeat (first | apply Kd.R_alloc | apply Kd.R_drewN | apply Kd.R_drew)); exact HO_0.out)) k_ hk, Kd.fresh' (Kd.R_lt (by (with_reducible repeat (first | apply Kd.R_alloc | apply Kd.R_drewN | apply Kd.R_drew)); exact HO_9.out)) k_ hk⟩)); (case aO => exact (by (with_reducible repeat (first | apply Kd.R_alloc | apply Kd.R_drewN | apply Kd.R_drew)); exact HO560.out)); (case aS => exact (below_size bA)); (case aL => have := LMc38.out; omega); intro v563 w42 ho hb hg hat; rw [← Ny562.out] at ho; have HO564 := as_ (ho); replace HO_0 := as_ (Kd.R_after (ok := (fun k_ => some k_ ≠ (.slice (some ad561) t544.length co41 : Value).ownBlock)) (by (with_reducible repeat (first | apply Kd.R_alloc | apply Kd.R_drewN | apply Kd.R_drew)); exact HO_0.out) hg hat); replace HO_6 := as_ (Kd.R_over' (by (with_reducible repeat (first | apply Kd.R_alloc | apply Kd.R_drewN | apply Kd.R_drew)); exact HO_6.out) (Kd.R_typed (by (with_reducible repeat (first | apply Kd.R_alloc | apply Kd.R_drewN | apply Kd.R_drew)); exact HO560.out)) (by decide) hg); replace HO_9 := as_ (Kd.R_after (ok := (fun k_ => some k_ ≠ (.slice Ao7 t532.length co7 : Value).ownBlock)) (by (with_reducible repeat (first | apply Kd.R_alloc | apply Kd.R_drewN | apply Kd.R_drew)); exact HO_9.out) hg hat); replace HO_10 := as_ (Kd.S_after (ok := (fun k_ => some k_ ≠ (.slice Ao7 t532.length co7 : Value).ownBlock ∧ some k_ ≠ (.slice (some ad561) t544.length co41 : Value).ownBlock)) (by (with_reducible repeat (first | apply Kd.S_alloc | apply Kd.S_drewN | apply Kd.S_drew)); exact HO_10.out) hg hat); replace HL555_0 := as_ (Kd.R_after (ok := (fun k_ => some k_ ≠ (.slice Ao7 t532.length co7 : Value).ownBlock ∧ some k_ ≠ (.slice (some ad561) t544.length co41 : Value).ownBlock ∧ some k_ ≠ (.slice (some ad555) t547.length co39 : Value).ownBlock)) (by (with_reducible repeat (first | apply Kd.R_alloc | apply Kd.R_drewN | apply Kd.R_drew)); exact HL555_0.out) hg hat); replace HL557_0 := as_ (Kd.R_after (ok := (fun k_ => some k_ ≠ (.slice Ao7 t532.length co7 : Value).ownBlock ∧ some k_ ≠ (.slice (some ad561) t544.length co41 : Value).ownBlock ∧ some k_ ≠ (.slice (some ad555) t547.length co39 : Value).ownBlock)) (by (with_reducible repeat (first | apply Kd.R_alloc | apply Kd.R_drewN | apply Kd.R_drew)); exact HL557_0.out) hg hat); replace HB := as_ (hb); clear HO560; clear ho hb hg hat))
       repeat (go_quiet (first | ((with_reducible refine gate_builtin (b := .append) (xs := #[.tmp 106, .tmp 110]) rfl ?_); (try (refine gate_guard (by rfl) ?_; dsimp only)); at_builtin; refine Kd.R_append_rows Kd.string (w0 := w) w.heap.size rfl (.tmp 106) (.tmp 110) 22 9 (.string ⟨#[]⟩) 16 rfl Try.underlying22 info9 rfl (by decide) (by omega) u11 x11_3 (rd_L5 t547 x12_3) _ _ _ (fun k_ => some k_ ≠ (.slice Ao7 t532.length co7 : Value).ownBlock ∧ some k_ ≠ (v545 : Value).ownBlock) (fun _ => False) rfl rfl ?aO ?aR (fun _ _ h => h) (fun _ h => h.elim) ?aF ?aB ?aS ?aL ?_; (case aR => repeat (first | exact (by repeat (first | (with_reducible exact HR557_0.out) | (with_reducible refine Kd.C_alloc ?_ _) | (with_reducible refine Kd.C_drewN ?_ _) | (with_reducible refine Kd.C_drew ?_) | exact HR557_0.out)) | (with_reducible refine Kd.C_alloc ?_ _) | (with_reducible refine Kd.C_drewN ?_ _) | (with_reducible refine Kd.C_drew ?_))); (case aB => exact bA); (case aF => exact (fun k_ hk => ⟨Kd.fresh' (Kd.R_lt (by (with_reducible repeat (first | apply Kd.R_alloc | apply Kd.R_drewN | apply Kd.R_drew)); exact HO_0.out)) k_ hk, Kd.fresh' (Kd.R_lt (by (with_reducible repeat (first | apply Kd.R_alloc | apply Kd.R_drewN | apply Kd.R_drew)); exact HO_9.out)) k_ hk⟩)); (case aO => exact (by (with_reducible repeat (first | apply Kd.R_alloc | apply Kd.R_drewN | apply Kd.R_drew)); exact HO_11.out)); (case aS => exact (below_size bA)); (case aL => have := LMc36.out; omega); intro v559 w40 ho hb hg hat; rw [← Ny558.out] at ho; have HO560 := as_ (ho); replace HO_0 := as_ (Kd.R_after (ok := (fun k_ => some k_ ≠ (v545 : Value).ownBlock)) (by (with_reducible repeat (first | apply Kd.R_alloc | apply Kd.R_drewN | apply Kd.R_drew)); exact HO_0.out) hg hat); replace HO_6 := as_ (Kd.R_over' (by (with_reducible repeat (first | apply Kd.R_alloc | apply Kd.R_drewN | apply Kd.R_drew)); exact HO_6.out) (Kd.R_typed (by (with_reducible repeat (first | apply Kd.R_alloc | apply Kd.R_drewN | apply Kd.R_drew)); exact HO_11.out)) (by decide) hg); replace HO_9 := as_ (Kd.R_after (ok := (fun k_ => some k_ ≠ (.slice Ao7 t532.length co7 : Value).ownBlock)) (by (with_reducible repeat (first | apply Kd.R_alloc | apply Kd.R_drewN | apply Kd.R_drew)); exact HO_9.out) hg hat); replace HO_10 := as_ (Kd.S_after (ok := (fun k_ => some k_ ≠ (.slice Ao7 t532.length co7 : Value).ownBlock ∧ some k_ ≠ (v545 : Value).ownBlock)) (by (with_reducible repeat (first | apply Kd.S_alloc | apply Kd.S_drewN | apply Kd.S_drew)); exact Kd.S_mono HO_10.out (fun _ hk => ⟨⟨hk.1, hk.2.1⟩, hk.2.2⟩)) hg hat); replace HL555_0 := as_ (Kd.R_after (ok := (fun k_ => some k_ ≠ (.slice Ao7 t532.length co7 : Value).ownBlock ∧ some k_ ≠ (v545 : Value).ownBlock ∧ some k_ ≠ (.slice (some ad555) t547.length co39 : Value).ownBlock)) (by (with_reducible repeat (first | apply Kd.R_alloc | apply Kd.R_drewN | apply Kd.R_drew)); exact Kd.R_mono HL555_0.out (fun _ hk => ⟨⟨hk.1.1, ⟨hk.1.2.1, hk.2⟩⟩, hk.1.2.2⟩)) hg hat); replace HL557_0 := as_ (Kd.R_after (ok := (fun k_ => some k_ ≠ (.slice Ao7 t532.length co7 : Value).ownBlock ∧ some k_ ≠ (v545 : Value).ownBlock ∧ some k_ ≠ (.slice (some ad555) t547.length co39 : Value).ownBlock)) (by (with_reducible repeat (first | apply Kd.R_alloc | apply Kd.R_drewN | apply Kd.R_drew)); exact Kd.R_mono HL557_0.out (fun _ hk => ⟨⟨hk.1.1, ⟨hk.1.2.1, hk.2⟩⟩, hk.1.2.2⟩)) hg hat); replace HB := as_ (hb); clear HO_11; clear ho hb hg hat; obtain ⟨Ao41, co41, eo41⟩ := Kd.R_slice HO_9.out; subst eo41; have p561 : 0 ≤ (x12_3 : Int) := of_decide_eq_true aM; have q561 : x12_3 < (t544.length : Int) := of_decide_eq_true aM; obtain ⟨ad561, e561, hx561_0⟩ := Kd.at_string (Kd.R_reads' HO_9.out).2.2 x12_3 p561 q561; cases e561; replace p561 := eq_true p561; replace q561 := eq_true q561) | ((with_reducible refine gate_builtin (b := .append) (xs := #[.tmp 116, .tmp 121]) rfl ?_); (try (refine gate_guard (by rfl) ?_; dsimp only)); at_builtin; refine Kd.R_append Kd.string (w0 := w) w.heap.size rfl (.tmp 116) (.tmp 121) 22 9 (.string ⟨#[]⟩) 16 rfl Try.underlying22 info9 rfl (by decide) (by omega) v559 y558 (rdOf ByteArray.empty t544 x12_3) [.string (rdOf ByteArray.empty t544 x12_3)] (fun k_ => some k_ ≠ (.slice Ao7 t532.length co7 : Value).ownBlock ∧ some k_ ≠ (.slice (some ad561) t544.length co41 : Value).ownBlock) (fun _ => False) rfl rfl ?aP (fun _ hk => hk.elim) ?aF ?aO ?aB ?aS ?aL ?_; (case aP => exact rfl); (case aB => exact bA); (case aF => exact (fun k_ hk => ⟨Kd.fresh' (Kd.R_lt (by (with_reducible repeat (first | apply Kd.R_alloc | apply Kd.R_drewN | apply Kd.R_drew)); exact HO_0.out)) k_ hk, Kd.fresh' (Kd.R_lt (by (with_reducible repeat (first | apply Kd.R_alloc | apply Kd.R_drewN | apply Kd.R_drew)); exact HO_9.out)) k_ hk⟩)); (case aO => exact (by (with_reducible repeat (first | apply Kd.R_alloc | apply Kd.R_drewN | apply Kd.R_drew)); exact HO560.out)); (case aS => exact (below_size bA)); (case aL => have := LMc38.out; omega); intro v563 w42 ho hb hg hat; rw [← Ny562.out] at ho; have HO564 := as_ (ho); replace HO_0 := as_ (Kd.R_after (ok := (fun k_ => some k_ ≠ (.slice (some ad561) t544.length co41 : Value).ownBlock)) (by (with_reducible repeat (first | apply Kd.R_alloc | apply Kd.R_drewN | apply Kd.R_drew)); exact HO_0.out) hg hat); replace HO_6 := as_ (Kd.R_over' (by (with_reducible repeat (first | apply Kd.R_alloc | apply Kd.R_drewN | apply Kd.R_drew)); exact HO_6.out) (Kd.R_typed (by (with_reducible repeat (first | apply Kd.R_alloc | apply Kd.R_drewN | apply Kd.R_drew)); exact HO560.out)) (by decide) hg); replace HO_9 := as_ (Kd.R_after (ok := (fun k_ => some k_ ≠ (.slice Ao7 t532.length co7 : Value).ownBlock)) (by (with_reducible repeat (first | apply Kd.R_alloc | apply Kd.R_drewN | apply Kd.R_drew)); exact HO_9.out) hg hat); replace HO_10 := as_ (Kd.S_after (ok := (fun k_ => some k_ ≠ (.slice Ao7 t532.length co7 : Value).ownBlock ∧ some k_ ≠ (.slice (some ad561) t544.length co41 : Value).ownBlock)) (by (with_reducible repeat (first | apply Kd.S_alloc | apply Kd.S_drewN | apply Kd.S_drew)); exact HO_10.out) hg hat); replace HL555_0 := as_ (Kd.R_after (ok := (fun k_ => some k_ ≠ (.slice Ao7 t532.length co7 : Value).ownBlock ∧ some k_ ≠ (.slice (some ad561) t544.length co41 : Value).ownBlock ∧ some k_ ≠ (.slice (some ad555) t547.length co39 : Value).ownBlock)) (by (with_reducible repeat (first | apply Kd.R_alloc | apply Kd.R_drewN | apply Kd.R_drew)); exact HL555_0.out) hg hat); replace HL557_0 := as_ (Kd.R_after (ok := (fun k_ => some k_ ≠ (.slice Ao7 t532.length co7 : Value).ownBlock ∧ some k_ ≠ (.slice (some ad561) t544.length co41 : Value).ownBlock ∧ some k_ ≠ (.slice (some ad555) t547.length co39 : Value).ownBlock)) (by (with_reducible repeat (first | apply Kd.R_alloc | apply Kd.R_drewN | apply Kd.R_drew)); exact HL557_0.out) hg hat); replace HB := as_ (hb); clear HO560; clear ho hb hg hat)); try go_wp2_with (first | ((with_reducible refine gate_builtin (b := .append) (xs := #[.tmp 106, .tmp 110]) rfl ?_); (try (refine gate_guard (by rfl) ?_; dsimp only)); at_builtin; refine Kd.R_append_rows Kd.string (w0 := w) w.heap.size rfl (.tmp 106) (.tmp 110) 22 9 (.string ⟨#[]⟩) 16 rfl Try.underlying22 info9 rfl (by decide) (by omega) u11 x11_3 (rd_L5 t547 x12_3) _ _ _ (fun k_ => some k_ ≠ (.slice Ao7 t532.length co7 : Value).ownBlock ∧ some k_ ≠ (v545 : Value).ownBlock) (fun _ => False) rfl rfl ?aO ?aR (fun _ _ h => h) (fun _ h => h.elim) ?aF ?aB ?aS ?aL ?_; (case aR => repeat (first | exact (by repeat (first | (with_reducible exact HR557_0.out) | (with_reducible refine Kd.C_alloc ?_ _) | (with_reducible refine Kd.C_drewN ?_ _) | (with_reducible refine Kd.C_drew ?_) | exact HR557_0.out)) | (with_reducible refine Kd.C_alloc ?_ _) | (with_reducible refine Kd.C_drewN ?_ _) | (with_reducible refine Kd.C_drew ?_))); (case aB => exact bA); (case aF => exact (fun k_ hk => ⟨Kd.fresh' (Kd.R_lt (by (with_reducible repeat (first | apply Kd.R_alloc | apply Kd.R_drewN | apply Kd.R_drew)); exact HO_0.out)) k_ hk, Kd.fresh' (Kd.R_lt (by (with_reducible repeat (first | apply Kd.R_alloc | apply Kd.R_drewN | apply Kd.R_drew)); exact HO_9.out)) k_ hk⟩)); (case aO => exact (by (with_reducible repeat (first | apply Kd.R_alloc | apply Kd.R_drewN | apply Kd.R_drew)); exact HO_11.out)); (case aS => exact (below_size bA)); (case aL => have := LMc36.out; omega); intro v559 w40 ho hb hg hat; rw [← Ny558.out] at ho; have HO560 := as_ (ho); replace HO_0 := as_ (Kd.R_after (ok := (fun k_ => some k_ ≠ (v545 : Value).ownBlock)) (by (with_reducible repeat (first | apply Kd.R_alloc | apply Kd.R_drewN | apply Kd.R_drew)); exact HO_0.out) hg hat); replace HO_6 := as_ (Kd.R_over' (by (with_reducible repeat (first | apply Kd.R_alloc | apply Kd.R_drewN | apply Kd.R_drew)); exact HO_6.out) (Kd.R_typed (by (with_reducible repeat (first | apply Kd.R_alloc | apply Kd.R_drewN | apply Kd.R_drew)); exact HO_11.out)) (by decide) hg); replace HO_9 := as_ (Kd.R_after (ok := (fun k_ => some k_ ≠ (.slice Ao7 t532.length co7 : Value).ownBlock)) (by (with_reducible repeat (first | apply Kd.R_alloc | apply Kd.R_drewN | apply Kd.R_drew)); exact HO_9.out) hg hat); replace HO_10 := as_ (Kd.S_after (ok := (fun k_ => some k_ ≠ (.slice Ao7 t532.length co7 : Value).ownBlock ∧ some k_ ≠ (v545 : Value).ownBlock)) (by (with_reducible repeat (first | apply Kd.S_alloc | apply Kd.S_drewN | apply Kd.S_drew)); exact Kd.S_mono HO_10.out (fun _ hk => ⟨⟨hk.1, hk.2.1⟩, hk.2.2⟩)) hg hat); replace HL555_0 := as_ (Kd.R_after (ok := (fun k_ => some k_ ≠ (.slice Ao7 t532.length co7 : Value).ownBlock ∧ some k_ ≠ (v545 : Value).ownBlock ∧ some k_ ≠ (.slice (some ad555) t547.length co39 : Value).ownBlock)) (by (with_reducible repeat (first | apply Kd.R_alloc | apply Kd.R_drewN | apply Kd.R_drew)); exact Kd.R_mono HL555_0.out (fun _ hk => ⟨⟨hk.1.1, ⟨hk.1.2.1, hk.2⟩⟩, hk.1.2.2⟩)) hg hat); replace HL557_0 := as_ (Kd.R_after (ok := (fun k_ => some k_ ≠ (.slice Ao7 t532.length co7 : Value).ownBlock ∧ some k_ ≠ (v545 : Value).ownBlock ∧ some k_ ≠ (.slice (some ad555) t547.length co39 : Value).ownBlock)) (by (with_reducible repeat (first | apply Kd.R_alloc | apply Kd.R_drewN | apply Kd.R_drew)); exact Kd.R_mono HL557_0.out (fun _ hk => ⟨⟨hk.1.1, ⟨hk.1.2.1, hk.2⟩⟩, hk.1.2.2⟩)) hg hat); replace HB := as_ (hb); clear HO_11; clear ho hb hg hat; obtain ⟨Ao41, co41, eo41⟩ := Kd.R_slice HO_9.out; subst eo41; have p561 : 0 ≤ (x12_3 : Int) := of_decide_eq_true aM; have q561 : x12_3 < (t544.length : Int) := of_decide_eq_true aM; obtain ⟨ad561, e561, hx561_0⟩ := Kd.at_string (Kd.R_reads' HO_9.out).2.2 x12_3 p561 q561; cases e561; replace p561 := eq_true p561; replace q561 := eq_true q561) | ((with_reducible refine gate_builtin (b := .append) (xs := #[.tmp 116, .tmp 121]) rfl ?_); (try (refine gate_guard (by rfl) ?_; dsimp only)); at_builtin; refine Kd.R_append Kd.string (w0 := w) w.heap.size rfl (.tmp 116) (.tmp 121) 22 9 (.string ⟨#[]⟩) 16 rfl Try.underlying22 info9 rfl (by decide) (by omega) v559 y558 (rdOf ByteArray.empty t544 x12_3) [.string (rdOf ByteArray.empty t544 x12_3)] (fun k_ => some k_ ≠ (.slice Ao7 t532.length co7 : Value).ownBlock ∧ some k_ ≠ (.slice (some ad561) t544.length co41 : Value).ownBlock) (fun _ => False) rfl rfl ?aP (fun _ hk => hk.elim) ?aF ?aO ?aB ?aS ?aL ?_; (case aP => exact rfl); (case aB => exact bA); (case aF => exact (fun k_ hk => ⟨Kd.fresh' (Kd.R_lt (by (with_reducible repeat (first | apply Kd.R_alloc | apply Kd.R_drewN | apply Kd.R_drew)); exact HO_0.out)) k_ hk, Kd.fresh' (Kd.R_lt (by (with_reducible repeat (first | apply Kd.R_alloc | apply Kd.R_drewN | apply Kd.R_drew)); exact HO_9.out)) k_ hk⟩)); (case aO => exact (by (with_reducible repeat (first | apply Kd.R_alloc | apply Kd.R_drewN | apply Kd.R_drew)); exact HO560.out)); (case aS => exact (below_size bA)); (case aL => have := LMc38.out; omega); intro v563 w42 ho hb hg hat; rw [← Ny562.out] at ho; have HO564 := as_ (ho); replace HO_0 := as_ (Kd.R_after (ok := (fun k_ => some k_ ≠ (.slice (some ad561) t544.length co41 : Value).ownBlock)) (by (with_reducible repeat (first | apply Kd.R_alloc | apply Kd.R_drewN | apply Kd.R_drew)); exact HO_0.out) hg hat); replace HO_6 := as_ (Kd.R_over' (by (with_reducible repeat (first | apply Kd.R_alloc | apply Kd.R_drewN | apply Kd.R_drew)); exact HO_6.out) (Kd.R_typed (by (with_reducible repeat (first | apply Kd.R_alloc | apply Kd.R_drewN | apply Kd.R_drew)); exact HO560.out)) (by decide) hg); replace HO_9 := as_ (Kd.R_after (ok := (fun k_ => some k_ ≠ (.slice Ao7 t532.length co7 : Value).ownBlock)) (by (with_reducible repeat (first | apply Kd.R_alloc | apply Kd.R_drewN | apply Kd.R_drew)); exact HO_9.out) hg hat); replace HO_10 := as_ (Kd.S_after (ok := (fun k_ => some k_ ≠ (.slice Ao7 t532.length co7 : Value).ownBlock ∧ some k_ ≠ (.slice (some ad561) t544.length co41 : Value).ownBlock)) (by (with_reducible repeat (first | apply Kd.S_alloc | apply Kd.S_drewN | apply Kd.S_drew)); exact HO_10.out) hg hat); replace HL555_0 := as_ (Kd.R_after (ok := (fun k_ => some k_ ≠ (.slice Ao7 t532.length co7 : Value).ownBlock ∧ some k_ ≠ (.slice (some ad561) t544.length co41 : Value).ownBlock ∧ some k_ ≠ (.slice (some ad555) t547.length co39 : Value).ownBlock)) (by (with_reducible repeat (first | apply Kd.R_alloc | apply Kd.R_drewN | apply Kd.R_drew)); exact HL555_0.out) hg hat); replace HL557_0 := as_ (Kd.R_after (ok := (fun k_ => some k_ ≠ (.slice Ao7 t532.length co7 : Value).ownBlock ∧ some k_ ≠ (.slice (some ad561) t544.length co41 : Value).ownBlock ∧ some k_ ≠ (.slice (some ad555) t547.length co39 : Value).ownBlock)) (by (with_reducible repeat (first | apply Kd.R_alloc | apply Kd.R_drewN | apply Kd.R_drew)); exact HL557_0.out) hg hat); replace HB := as_ (hb); clear HO560; clear ho hb hg hat)))
       go_roundg k3
       case measure => have := HK1.out; have := HJ20.out; have := HK3.out; omega
       case rel => exact ⟨(y562), (wrap64 (x12_3 + 1)), (by first | rfl | (simp; done) | (simp [*]; done)), H', ⟨by have := HK1.out; have := HJ20.out; have := HK3.out; omega⟩, ⟨by (with_reducible repeat (first | apply Kd.R_alloc | apply Kd.R_drewN | apply Kd.R_drew)); exact HO_0.out⟩, ⟨by (with_reducible repeat (first | apply Kd.R_alloc | apply Kd.R_drewN | apply Kd.R_drew)); exact HO_6.out⟩, ⟨by (with_reducible repeat (first | apply Kd.R_alloc | apply Kd.R_drewN | apply Kd.R_drew)); exact HO_9.out⟩, ⟨by (with_reducible repeat (first | apply Kd.S_alloc | apply Kd.S_drewN | apply Kd.S_drew)); exact Kd.S_mono HO_10.out (fun _ hk => ⟨hk.1.1, ⟨hk.1.2, hk.2⟩⟩)⟩, ⟨by (with_reducible repeat (first | apply Kd.R_alloc | apply Kd.R_drewN | apply Kd.R_drew)); exact HO564.out⟩, ⟨by repeat (first | (with_reducible first | exact HB.out | apply below_alloc | apply pw_below_drewN | apply below_drew1) | exact HB.out)⟩⟩
/-! ### withylaw17_LevelHeights: function 5 -/
mutual
def withylaw17_LevelHeights.l0 : Nat → List (List Int) → Int → Int → Option (Bool)
 | 0, _, _, _ => none
 | k + 1, x6, x7, x8 => if x8 < (x6.length : Int) then (withylaw17_LevelHeights.l1 k x6 x7 x8 0 0) else (if x7 = 1 then (if (x6.length : Int) ≤ 7 then ((withylaw17_fixed.f k).bind fun t572 => (some t572)) else (none)) else (none))
def withylaw17_LevelHeights.l1 : Nat → List (List Int) → Int → Int → Int → Int → Option (Bool)
 | 0, _, _, _, _, _ => none
 | k + 1, x6, x7, x8, x9, x10 => if 0 ≤ x8 then (if x8 < (x6.length : Int) then (if x10 < ((rd_L6 x6 x8).length : Int) then (if 0 ≤ x10 then (withylaw17_LevelHeights.l1 k x6 x7 x8 (wrap64 (x9 + (rd (rd_L6 x6 x8) x10))) (wrap64 (x10 + 1))) else (none)) else (if x9 = x7 then (if x7 < 2 then (none) else (if ((rd_L6 x6 x8).length : Int) ≥ x7 then (none) else (withylaw17_LevelHeights.l0 k x6 ((rd_L6 x6 x8).length : Int) (wrap64 (x8 + 1))))) else (none))) else (none)) else (none)
end
def withylaw17_LevelHeights.f (k : Nat) (l0 : List ByteArray) (a1 : Int) : Option (Bool) := (withylaw16_Size.f a1).bind fun t565 => ((withylaw17_Rise.f k l0 t565).bind fun t566 => ((level_Heights.f k t566 t565).bind fun t569 => (withylaw17_LevelHeights.l0 k t569 (wrap64 ((t566.length : Int) + 1)) 0)))
theorem withylaw17_LevelHeights.mono_l : ∀ k, (∀ y0 y1 y2, LeO (withylaw17_LevelHeights.l0 k y0 y1 y2) (withylaw17_LevelHeights.l0 (k + 1) y0 y1 y2)) ∧ (∀ y0 y1 y2 y3 y4, LeO (withylaw17_LevelHeights.l1 k y0 y1 y2 y3 y4) (withylaw17_LevelHeights.l1 (k + 1) y0 y1 y2 y3 y4))
 | 0 => ⟨fun _ _ _ r h => by simp [withylaw17_LevelHeights.l0] at h, fun _ _ _ _ _ r h => by simp [withylaw17_LevelHeights.l1] at h⟩
 | k + 1 => by
  obtain ⟨ih0, ih1⟩ := withylaw17_LevelHeights.mono_l k
  refine ⟨?_, ?_⟩
  ·intro y0 y1 y2
   unfold withylaw17_LevelHeights.l0
   repeat' first
   | (with_reducible exact ih0 _ _ _)
   | (with_reducible exact ih1 _ _ _ _ _)
   | (with_reducible exact level_Heights.mono _ _ _)
   | (with_reducible exact withylaw17_Rise.mono _ _ _)
   | (with_reducible exact withylaw17_fixed.mono _)
   | (with_reducible exact LeO.refl _)
   | (with_reducible exact LeO.none _)
   | (with_reducible refine LeO.ite ?_ ?_)
   | (with_reducible refine LeO.bind ?_ (fun _ => ?_))
   | exact ih0 _ _ _
   | exact ih1 _ _ _ _ _
   | exact level_Heights.mono _ _ _
   | exact withylaw17_Rise.mono _ _ _
   | exact withylaw17_fixed.mono _
   | exact LeO.none _
   | refine LeO.ite ?_ ?_
   | refine LeO.bind ?_ (fun _ => ?_)
  ·intro y0 y1 y2 y3 y4
   unfold withylaw17_LevelHeights.l1
   repeat' first
   | (with_reducible exact ih0 _ _ _)
   | (with_reducible exact ih1 _ _ _ _ _)
   | (with_reducible exact level_Heights.mono _ _ _)
   | (with_reducible exact withylaw17_Rise.mono _ _ _)
   | (with_reducible exact withylaw17_fixed.mono _)
   | (with_reducible exact LeO.refl _)
   | (with_reducible exact LeO.none _)
   | (with_reducible refine LeO.ite ?_ ?_)
   | (with_reducible refine LeO.bind ?_ (fun _ => ?_))
   | exact ih0 _ _ _
   | exact ih1 _ _ _ _ _
   | exact level_Heights.mono _ _ _
   | exact withylaw17_Rise.mono _ _ _
   | exact withylaw17_fixed.mono _
   | exact LeO.none _
   | refine LeO.ite ?_ ?_
   | refine LeO.bind ?_ (fun _ => ?_)
theorem withylaw17_LevelHeights.mono : ∀ a0 a1 k, LeO (withylaw17_LevelHeights.f k a0 a1) (withylaw17_LevelHeights.f (k + 1) a0 a1) := by
 intro a0 a1 k
 obtain ⟨ih0, ih1⟩ := withylaw17_LevelHeights.mono_l k
 unfold withylaw17_LevelHeights.f
 repeat' first
   | (with_reducible exact ih0 _ _ _)
   | (with_reducible exact ih1 _ _ _ _ _)
   | (with_reducible exact level_Heights.mono _ _ _)
   | (with_reducible exact withylaw17_Rise.mono _ _ _)
   | (with_reducible exact withylaw17_fixed.mono _)
   | (with_reducible exact LeO.refl _)
   | (with_reducible exact LeO.none _)
   | (with_reducible refine LeO.ite ?_ ?_)
   | (with_reducible refine LeO.bind ?_ (fun _ => ?_))
   | exact ih0 _ _ _
   | exact ih1 _ _ _ _ _
   | exact level_Heights.mono _ _ _
   | exact withylaw17_Rise.mono _ _ _
   | exact withylaw17_fixed.mono _
   | exact LeO.none _
   | refine LeO.ite ?_ ?_
   | refine LeO.bind ?_ (fun _ => ?_)
set_option maxHeartbeats 8000000 in
set_option maxRecDepth 100000 in
theorem withylaw17_LevelHeights.calls (k : Nat) (A0 : Option Addr) (c0 : Nat) (l0 : List ByteArray) (a1 : Int) (r : Bool) (w : World) (hr0 : Kd.C Kd.string w A0 l0.length l0) (hc0 : l0.length ≤ c0) (h : withylaw17_LevelHeights.f k l0 a1 = some r) :
  Calls Try.prog 5 #[.slice A0 l0.length c0, .int .i64 a1] w fun e w' => e = .returned (.bool r) ∧ Below w.heap.size w w' := by
 have HR0 := Aside0.mk hr0
 have HC0 := Aside0.mk hc0
 clear hr0 hc0
 have HB := as_ (Below.refl w.heap.size w)
 have H : ((withylaw16_Size.f a1).bind fun t565 => ((withylaw17_Rise.f k l0 t565).bind fun t566 => ((level_Heights.f k t566 t565).bind fun t569 => (withylaw17_LevelHeights.l0 k t569 (wrap64 ((t566.length : Int) + 1)) 0)))) = some r := h
 clear h
 replace H := bM H
 obtain ⟨t565, A30, H⟩ := H
 replace H : ((withylaw17_Rise.f k l0 t565).bind fun t566 => ((level_Heights.f k t566 t565).bind fun t569 => (withylaw17_LevelHeights.l0 k t569 (wrap64 ((t566.length : Int) + 1)) 0))) = some r := H
 have A3 := Aside0.mk A30
 clear A30
 replace H := bM H
 obtain ⟨t566, A40, H⟩ := H
 replace H : ((level_Heights.f k t566 t565).bind fun t569 => (withylaw17_LevelHeights.l0 k t569 (wrap64 ((t566.length : Int) + 1)) 0)) = some r := H
 have A4 := Aside0.mk A40
 clear A40
 replace H := bM H
 obtain ⟨t569, A50, H⟩ := H
 replace H : (withylaw17_LevelHeights.l0 k t569 (wrap64 ((t566.length : Int) + 1)) 0) = some r := H
 have A5 := Aside0.mk A50
 clear A50
 have H' := Aside0.mk H
 clear H
 go_enter Try.func5, Try.ntmps5
 go_wp2_with (first | ((with_reducible refine gate_callee (f := 12) rfl ?_); refine goesL_ (some 12) rfl rfl Try.func12 (by kernel_rfl) rfl #[.int .i64 a1] rfl aO ?_; (with_reducible refine (withylaw16_Size.calls a1 t565 _ A3.out).mono ?_); rintro e w' ⟨rfl, ⟨nd, rfl⟩⟩; refine ⟨_, rfl, ?_⟩) | ((with_reducible refine gate_callee (f := 13) rfl ?_); refine goesL_ (some 15) rfl rfl Try.func13 (by kernel_rfl) rfl #[.slice A0 l0.length c0, .int .i64 t565] rfl aO ?_; (with_reducible refine (withylaw17_Rise.calls k _ _ l0 t565 t566 _ ?side1 ?side2 A4.out).mono ?_); (case side1 => repeat (first | exact HR0.out | (with_reducible refine Kd.C_alloc ?_ _) | (with_reducible refine Kd.C_drewN ?_ _) | (with_reducible refine Kd.C_drew ?_))); (case side2 => exact HC0.out); rintro e w6 ⟨v567, rfl, ho0, hb⟩; refine ⟨_, rfl, ?_⟩; have HO568 := as_ (Kd.R_lower ho0 (below_size bA)); replace HB := as_ (below_step bA hb); (try clear hb); (try clear hb2); (try clear hk); (try clear hi); (try clear ho0); obtain ⟨Ao7, co7, eo7⟩ := Kd.R_slice HO568.out; subst eo7) | ((with_reducible refine gate_callee (f := 24) rfl ?_); refine goesL_ (some 18) rfl rfl Try.func24 (by kernel_rfl) rfl #[.slice Ao7 t566.length co7, .int .i64 t565] rfl aO ?_; (with_reducible refine (level_Heights.calls k _ _ t566 t565 t569 _ ?side1 ?side2 A5.out).mono ?_); (case side1 => repeat (first | exact (Kd.R_reads' HO568.out).2.2 | (with_reducible refine Kd.C_alloc ?_ _) | (with_reducible refine Kd.C_drewN ?_ _) | (with_reducible refine Kd.C_drew ?_))); (case side2 => exact (Kd.R_reads' HO568.out).2.1); rintro e w8 ⟨v570, rfl, ho0, hb⟩; refine ⟨_, rfl, ?_⟩; have HO571 := as_ (Kd.S_lower ho0 (below_size bA)); replace HO568 := as_ (Kd.R_below (by (with_reducible repeat (first | apply Kd.R_alloc | apply Kd.R_drewN | apply Kd.R_drew)); exact HO568.out) hb); replace HB := as_ (below_step bA hb); (try clear hb); (try clear hb2); (try clear hk); (try clear hi); (try clear ho0)))
 go_loopg [7, 8] k (fun kq v7 v8 w' => ∃ (x7_1 : Int) (x8_1 : Int), v7 = .int .i64 x7_1 ∧ v8 = .int .i64 x8_1 ∧ Aside0 (withylaw17_LevelHeights.l0 kq t569 x7_1 x8_1 = some r) ∧ Aside0 (kq ≤ k) ∧ Aside0 (Kd.S (Kd.slice 3 (Kd.int .i64)) 27 w' w.heap.size (fun _ => True) v570 t569) ∧ Aside0 (Below w.heap.size w w'))
 case atStart => exact ⟨(wrap64 ((t566.length : Int) + 1)), (0), (by first | rfl | (simp; done) | (simp [*]; done)), (by first | rfl | (simp; done) | (simp [*]; done)), H', ⟨Nat.le_refl _⟩, ⟨by (with_reducible repeat (first | apply Kd.S_alloc | apply Kd.S_drewN | apply Kd.S_drew)); exact HO571.out⟩, ⟨by repeat (first | (with_reducible first | exact HB.out | apply below_alloc | apply pw_below_drewN | apply below_drew1) | exact HB.out)⟩⟩
 case round =>
  clear H'
  try clear c1
  try clear c2
  try clear p2
  try clear c5
  try clear p6
  obtain ⟨x7_1, x8_1, rfl, rfl, HA, HK1, HO_6, HB⟩ := hrel
  cases gk with
  | zero => exact absurd HA.out (by simp [withylaw17_LevelHeights.l0])
  | succ k1 =>
   have H := HA.out
   clear HA
   simp only [withylaw17_LevelHeights.l0] at H
   by_cases c9 : x8_1 < (t569.length : Int)
   rotate_left
   ·rw [if_neg c9] at H
    have c9b0 : decide (x8_1 < (t569.length : Int)) = false := decide_eq_false c9
    clear c9
    by_cases c18 : x7_1 = 1
    rotate_left
    ·rw [if_neg c18] at H
     exact absurd H (by simp)
  
    rw [if_pos c18] at H
    have c18b0 : (x7_1 == 1) = true := beq_iff_eq.mpr c18
    have c18b1 : (x7_1 != 1) = false := bne_eq_false_iff_eq.mpr c18
    clear c18
    by_cases c19 : (t569.length : Int) ≤ 7
    rotate_left
    ·rw [if_neg c19] at H
     exact absurd H (by simp)
    rw [if_pos c19] at H
    have c19b0 : decide ((t569.length : Int) ≤ 7) = true := decide_eq_true c19
    have c19b1 : decide (t569.length ≤ 7) = true := decide_eq_true (by omega)
    clear c19
    replace H := bM H
    obtain ⟨t572, A200, H⟩ := H
    replace H : (some t572) = some r := H
    have A20 := Aside0.mk A200
    clear A200
    obtain rfl := Option.some.inj H
    obtain ⟨Ao21, co21, eo21⟩ := Kd.S_slice HO_6.out
    subst eo21
    go_wp2_with (first | (go_at_call 26; (with_reducible refine (withylaw17_fixed.calls k1  t572 _ A20.out).mono ?_); rintro e w22 ⟨rfl, hb⟩; replace HO_6 := as_ (Kd.S_below (by (with_reducible repeat (first | apply Kd.S_alloc | apply Kd.S_drewN | apply Kd.S_drew)); exact HO_6.out) hb); replace HB := as_ (below_step bA hb); (try clear hb); (try clear hb2); (try clear hk); (try clear hi)))
    go_ret
    exact ⟨eW, by repeat (first | (with_reducible first | exact HB.out | apply below_alloc | apply pw_below_drewN | apply below_drew1) | exact HB.out)⟩
   rw [if_pos c9] at H
   have c9b0 : decide (x8_1 < (t569.length : Int)) = true := decide_eq_true c9
   clear c9
   have H' := Aside0.mk H
   clear H
   obtain ⟨Ao10, co10, eo10⟩ := Kd.S_slice HO_6.out
   subst eo10
   go_wp2
   go_loopg [9, 10] k1 (fun kq v9 v10 w' => ∃ (x9_2 : Int) (x10_2 : Int), v9 = .int .i64 x9_2 ∧ v10 = .int .i64 x10_2 ∧ Aside0 (withylaw17_LevelHeights.l1 kq t569 x7_1 x8_1 x9_2 x10_2 = some r) ∧ Aside0 (kq ≤ k1) ∧ Aside0 (Kd.S (Kd.slice 3 (Kd.int .i64)) 27 w' w.heap.size (fun _ => True) (.slice Ao10 t569.length co10) t569) ∧ Aside0 (Below w.heap.size w w'))
   case atStart => exact ⟨(0), (0), (by first | rfl | (simp; done) | (simp [*]; done)), (by first | rfl | (simp; done) | (simp [*]; done)), H', ⟨Nat.le_refl _⟩, ⟨by (with_reducible repeat (first | apply Kd.S_alloc | apply Kd.S_drewN | apply Kd.S_drew)); exact HO_6.out⟩, ⟨by repeat (first | (with_reducible first | exact HB.out | apply below_alloc | apply pw_below_drewN | apply below_drew1) | exact HB.out)⟩⟩
   case round =>
    clear H'
    try clear c1
    try clear c2
    try clear p2
    try clear c5
    try clear p6
    try clear c9
    try clear c9b0
    try clear p2
    try clear p6
    obtain ⟨x9_2, x10_2, rfl, rfl, HA, HK2, HO_6, HB⟩ := hrel
    cases gk with
    | zero => exact absurd HA.out (by simp [withylaw17_LevelHeights.l1])
    | succ k2 =>
     have H := HA.out
     clear HA
     simp only [withylaw17_LevelHeights.l1] at H
     by_cases c11 : 0 ≤ x8_1
     rotate_left
     ·rw [if_neg c11] at H
      exact absurd H (by simp)
     rw [if_pos c11] at H
     have c11b0 : decide (0 ≤ x8_1) = true := decide_eq_true c11
     clear c11
     by_cases c12 : x8_1 < (t569.length : Int)
     rotate_left
     ·rw [if_neg c12] at H
      exact absurd H (by simp)
     rw [if_pos c12] at H
     have c12b0 : decide (x8_1 < (t569.length : Int)) = true := decide_eq_true c12
     clear c12
     by_cases c13 : x10_2 < ((rd_L6 t569 x8_1).length : Int)
     ·rw [if_pos c13] at H
      have c13b0 : decide (x10_2 < ((rd_L6 t569 x8_1).length : Int)) = true := decide_eq_true c13
      clear c13
      by_cases c14 : 0 ≤ x10_2
      rotate_left
      ·rw [if_neg c14] at H
       exact absurd H (by simp)
      rw [if_pos c14] at H
      have c14b0 : decide (0 ≤ x10_2) = true := decide_eq_true c14
      clear c14
      have H' := Aside0.mk H
      clear H
      have p573 : 0 ≤ (x8_1 : Int) := of_decide_eq_true aM
      have q573 : x8_1 < (t569.length : Int) := of_decide_eq_true aM
      obtain ⟨ad573, A573_0, c573_0, e573, hx573_0, hl573_0, hi573_0⟩ := at_L6 (Kd.S_reads' HO_6.out).2.2 x8_1 p573 q573
      cases e573
      obtain ⟨ce573, hce573, hMe573, hcc573⟩ := Kd.S_get HO_6.out [] x8_1 p573 (by first | exact q573 | exact of_decide_eq_true aM | (have e_ := (Kd.S_reads' HO_6.out).1; omega))
      obtain ⟨ve573_0, rfl, ge573_0⟩ := hMe573
      have hv573_0 := hcc573 0 _ rfl
      rw [Nat.add_zero, show ((Kd.slice 3 (Kd.int .i64))).sz = 1 from rfl, Nat.mul_one] at hv573_0
      replace hv573_0 := Option.some.inj (hv573_0.symm.trans hx573_0)
      rw [hv573_0] at ge573_0
      have HL573_0 := as_ (show Kd.R (Kd.int .i64) 3 _ _ _ _ (rd_L6 t569 x8_1) from ge573_0)
      clear hv573_0 ge573_0
      clear hcc573 hce573
      have HR573_0 := Aside0.mk hi573_0
      have HC573_0 := Aside0.mk hl573_0
      clear hi573_0 hl573_0
      replace p573 := eq_true p573
      replace q573 := eq_true q573
      have p574 : 0 ≤ (x8_1 : Int) := of_decide_eq_true aM
      have q574 : x8_1 < (t569.length : Int) := of_decide_eq_true aM
      obtain ⟨ad574, A574_0, c574_0, e574, hx574_0, hl574_0, hi574_0⟩ := at_L6 (Kd.S_reads' HO_6.out).2.2 x8_1 p574 q574
      obtain rfl : ad573 = ad574 := (by injection e574)
      obtain ⟨ce574, hce574, hMe574, hcc574⟩ := Kd.S_get HO_6.out [] x8_1 p574 (by first | exact q574 | exact of_decide_eq_true aM | (have e_ := (Kd.S_reads' HO_6.out).1; omega))
      obtain ⟨ve574_0, rfl, ge574_0⟩ := hMe574
      have hv574_0 := hcc574 0 _ rfl
      rw [Nat.add_zero, show ((Kd.slice 3 (Kd.int .i64))).sz = 1 from rfl, Nat.mul_one] at hv574_0
      replace hv574_0 := Option.some.inj (hv574_0.symm.trans hx574_0)
      rw [hv574_0] at ge574_0
      have HL574_0 := as_ (show Kd.R (Kd.int .i64) 3 _ _ _ _ (rd_L6 t569 x8_1) from ge574_0)
      clear hv574_0 ge574_0
      clear hcc574 hce574
      have HR574_0 := Aside0.mk hi574_0
      have HC574_0 := Aside0.mk hl574_0
      clear hi574_0 hl574_0
      replace p574 := eq_true p574
      replace q574 := eq_true q574
      have ea_ := Option.some.inj (hx573_0.symm.trans hx574_0)
      injection ea_ with ea_ en_ ec_
      subst ea_
      subst ec_
      clear en_
      have p575 : 0 ≤ (x10_2 : Int) := of_decide_eq_true aM
      have q575 : x10_2 < ((rd_L6 t569 x8_1).length : Int) := of_decide_eq_true aM
      obtain ⟨ad575, e575, hx575_0⟩ := Kd.at_int (by repeat (first | (with_reducible exact HR574_0.out) | (with_reducible refine Kd.C_alloc ?_ _) | (with_reducible refine Kd.C_drewN ?_ _) | (with_reducible refine Kd.C_drew ?_) | exact HR574_0.out)) x10_2 p575 q575
      cases e575
      replace p575 := eq_true p575
      replace q575 := eq_true q575
      go_wp2
      go_roundg k2
      case measure => have := HK1.out; have := HK2.out; omega
      case rel => exact ⟨(wrap64 (x9_2 + (rd (rd_L6 t569 x8_1) x10_2))), (wrap64 (x10_2 + 1)), (by first | rfl | (simp; done) | (simp [*]; done)), (by first | rfl | (simp; done) | (simp [*]; done)), H', ⟨by have := HK1.out; have := HK2.out; omega⟩, ⟨by (with_reducible repeat (first | apply Kd.S_alloc | apply Kd.S_drewN | apply Kd.S_drew)); exact HO_6.out⟩, ⟨by repeat (first | (with_reducible first | exact HB.out | apply below_alloc | apply pw_below_drewN | apply below_drew1) | exact HB.out)⟩⟩
     rw [if_neg c13] at H
     have c13b0 : decide (x10_2 < ((rd_L6 t569 x8_1).length : Int)) = false := decide_eq_false c13
     clear c13
     by_cases c15 : x9_2 = x7_1
     rotate_left
     ·rw [if_neg c15] at H
      exact absurd H (by simp)
     rw [if_pos c15] at H
     have c15b0 : (x9_2 == x7_1) = true := beq_iff_eq.mpr c15
     have c15b1 : (x9_2 != x7_1) = false := bne_eq_false_iff_eq.mpr c15
     clear c15
     by_cases c16 : x7_1 < 2
     ·rw [if_pos c16] at H
      exact absurd H (by simp)
     rw [if_neg c16] at H
     have c16b0 : decide (x7_1 < 2) = false := decide_eq_false c16
     clear c16
     by_cases c17 : ((rd_L6 t569 x8_1).length : Int) ≥ x7_1
     ·rw [if_pos c17] at H
      exact absurd H (by simp)
     rw [if_neg c17] at H
     have c17b0 : decide (x7_1 ≤ ((rd_L6 t569 x8_1).length : Int)) = false := decide_eq_false c17
     clear c17
     have H' := Aside0.mk H
     clear H
     have p573 : 0 ≤ (x8_1 : Int) := of_decide_eq_true aM
     have q573 : x8_1 < (t569.length : Int) := of_decide_eq_true aM
     obtain ⟨ad573, A573_0, c573_0, e573, hx573_0, hl573_0, hi573_0⟩ := at_L6 (Kd.S_reads' HO_6.out).2.2 x8_1 p573 q573
     cases e573
     obtain ⟨ce573, hce573, hMe573, hcc573⟩ := Kd.S_get HO_6.out [] x8_1 p573 (by first | exact q573 | exact of_decide_eq_true aM | (have e_ := (Kd.S_reads' HO_6.out).1; omega))
     obtain ⟨ve573_0, rfl, ge573_0⟩ := hMe573
     have hv573_0 := hcc573 0 _ rfl
     rw [Nat.add_zero, show ((Kd.slice 3 (Kd.int .i64))).sz = 1 from rfl, Nat.mul_one] at hv573_0
     replace hv573_0 := Option.some.inj (hv573_0.symm.trans hx573_0)
     rw [hv573_0] at ge573_0
     have HL573_0 := as_ (show Kd.R (Kd.int .i64) 3 _ _ _ _ (rd_L6 t569 x8_1) from ge573_0)
     clear hv573_0 ge573_0
     clear hcc573 hce573
     have HR573_0 := Aside0.mk hi573_0
     have HC573_0 := Aside0.mk hl573_0
     clear hi573_0 hl573_0
     replace p573 := eq_true p573
     replace q573 := eq_true q573
     have p576 : 0 ≤ (x8_1 : Int) := of_decide_eq_true aM
     have q576 : x8_1 < (t569.length : Int) := of_decide_eq_true aM
     obtain ⟨ad576, A576_0, c576_0, e576, hx576_0, hl576_0, hi576_0⟩ := at_L6 (Kd.S_reads' HO_6.out).2.2 x8_1 p576 q576
     obtain rfl : ad573 = ad576 := (by injection e576)
     obtain ⟨ce576, hce576, hMe576, hcc576⟩ := Kd.S_get HO_6.out [] x8_1 p576 (by first | exact q576 | exact of_decide_eq_true aM | (have e_ := (Kd.S_reads' HO_6.out).1; omega))
     obtain ⟨ve576_0, rfl, ge576_0⟩ := hMe576
     have hv576_0 := hcc576 0 _ rfl
     rw [Nat.add_zero, show ((Kd.slice 3 (Kd.int .i64))).sz = 1 from rfl, Nat.mul_one] at hv576_0
     replace hv576_0 := Option.some.inj (hv576_0.symm.trans hx576_0)
     rw [hv576_0] at ge576_0
     have HL576_0 := as_ (show Kd.R (Kd.int .i64) 3 _ _ _ _ (rd_L6 t569 x8_1) from ge576_0)
     clear hv576_0 ge576_0
     clear hcc576 hce576
     have HR576_0 := Aside0.mk hi576_0
     have HC576_0 := Aside0.mk hl576_0
     clear hi576_0 hl576_0
     replace p576 := eq_true p576
     replace q576 := eq_true q576
     have ea_ := Option.some.inj (hx573_0.symm.trans hx576_0)
     injection ea_ with ea_ en_ ec_
     subst ea_
     subst ec_
     clear en_
     have p577 : 0 ≤ (x8_1 : Int) := of_decide_eq_true aM
     have q577 : x8_1 < (t569.length : Int) := of_decide_eq_true aM
     obtain ⟨ad577, A577_0, c577_0, e577, hx577_0, hl577_0, hi577_0⟩ := at_L6 (Kd.S_reads' HO_6.out).2.2 x8_1 p577 q577
     obtain rfl : ad573 = ad577 := (by injection e577)
     obtain ⟨ce577, hce577, hMe577, hcc577⟩ := Kd.S_get HO_6.out [] x8_1 p577 (by first | exact q577 | exact of_decide_eq_true aM | (have e_ := (Kd.S_reads' HO_6.out).1; omega))
     obtain ⟨ve577_0, rfl, ge577_0⟩ := hMe577
     have hv577_0 := hcc577 0 _ rfl
     rw [Nat.add_zero, show ((Kd.slice 3 (Kd.int .i64))).sz = 1 from rfl, Nat.mul_one] at hv577_0
     replace hv577_0 := Option.some.inj (hv577_0.symm.trans hx577_0)
     rw [hv577_0] at ge577_0
     have HL577_0 := as_ (show Kd.R (Kd.int .i64) 3 _ _ _ _ (rd_L6 t569 x8_1) from ge577_0)
     clear hv577_0 ge577_0
     clear hcc577 hce577
     have HR577_0 := Aside0.mk hi577_0
     have HC577_0 := Aside0.mk hl577_0
     clear hi577_0 hl577_0
     replace p577 := eq_true p577
     replace q577 := eq_true q577
     have ea_ := Option.some.inj (hx573_0.symm.trans hx577_0)
     injection ea_ with ea_ en_ ec_
     subst ea_
     subst ec_
     clear en_
     go_wp2
     go_roundg k2
     case measure => have := HK1.out; have := HK2.out; omega
     case rel => exact ⟨(((rd_L6 t569 x8_1).length : Int)), (wrap64 (x8_1 + 1)), (by first | rfl | (simp; done) | (simp [*]; done)), (by first | rfl | (simp; done) | (simp [*]; done)), H', ⟨by have := HK1.out; have := HK2.out; omega⟩, ⟨by (with_reducible repeat (first | apply Kd.S_alloc | apply Kd.S_drewN | apply Kd.S_drew)); exact HO_6.out⟩, ⟨by repeat (first | (with_reducible first | exact HB.out | apply below_alloc | apply pw_below_drewN | apply below_drew1) | exact HB.out)⟩⟩
end Go.Proofs.Ytfialmegikegbaa.P
