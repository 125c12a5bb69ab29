/- What is proved here: for functions of the Go text, a Lean function each, and that the call comes to just what it answers. Conditions: as each contract names them. Written by wip/tools/myprint.py, a driver of the print of the kit. -/
import Derived.Test.YtnfnmjjdcaphjaaP0
import Derived.Test.YtnfnmjjdcaphjaaP1
import Derived.Test.YtnfnmjjdcaphjaaP3
import Derived.Test.YtnfnmjjdcaphjaaP7
import Derived.Test.YtnfnmjjdcaphjaaP8
import Derived.Test.YtnfnmjjdcaphjaaP12
import Derived.Test.YtnfnmjjdcaphjaaP15
namespace Go.Proofs.Ytnfnmjjdcaphjaa.P
open Go.RowKit Go.Proofs.YtnfnmjjdcaphjaaW.PrintWords Go.Proofs.YtnfnmjjdcaphjaaW.PrintLast Go.Proofs.YtnfnmjjdcaphjaaW.PrintMore
attribute [local go_sem] max2_int min2_int max_two min_two max_three min_three max_four min_four Go.Proofs.YtnfnmjjdcaphjaaLaws.str_leq Go.Proofs.YtnfnmjjdcaphjaaLaws.str_gtr Go.Proofs.YtnfnmjjdcaphjaaLaws.str_geq Go.Proofs.YtnfnmjjdcaphjaaLaws.max2_str Go.Proofs.YtnfnmjjdcaphjaaLaws.min2_str   -- for this text's walks alone
set_option linter.unusedVariables false
set_option linter.unusedSimpArgs false

attribute [local go_sem high] eqA23
/-! ### withylaw07_HeadBack: function 4 -/
def withylaw07_HeadBack.j0 : Nat → ByteArray → Option (Bool)
  | 0, _ => none
  | k + 1, x2 => (head_Open.f k x2).bind fun bt279 => (if bt279.2.2.2.2.2.2 = 0 then ((head_Seal.f k bt279.1 bt279.2.1 bt279.2.2.1 bt279.2.2.2.1 bt279.2.2.2.2.1 bt279.2.2.2.2.2.1 (x2.size : Int)).bind fun bt287 => (if bt287.2 = 0 then (if bt287.1.toList = x2.toList then ((head_Right.f k bt279.1 bt279.2.1 bt279.2.2.1 bt279.2.2.2.1 bt279.2.2.2.2.1).bind fun t289 => (if t289 = true then ((withylaw07_fixed.f k).bind fun t290 => (some t290)) else (none))) else (none)) else (none))) else (if bt279.2.2.2.2.2.2 = 3 then (if (bt279.1 == 0 && (bt279.2.1 == 0 && (bt279.2.2.1 == 0 && (bt279.2.2.2.1 == 0 && (bt279.2.2.2.2.1 == 0))))) = true then (if bt279.2.2.2.2.2.1.toList = ([] : List UInt8) then ((withylaw07_fixed.f k).bind fun t291 => (some t291)) else (none)) else (none)) else (none)))
def withylaw07_HeadBack.f (k : Nat) (a0_0 : Int) (a0_1 : Int) (a0_2 : Int) (a0_3 : Int) (a0_4 : Int) (a1_0 : ByteArray) (a1_1 : Int) (a2 : ByteArray) : Option (Bool) := if 0 ≤ (mn (a1_0.size : Int) 1100) then (if (mn (a1_0.size : Int) 1100) ≤ (a1_0.size : Int) then (if 0 ≤ (mn (a2.size : Int) 1100) then (if (mn (a2.size : Int) 1100) ≤ (a2.size : Int) then ((head_Seal.f k a0_0 a0_1 a0_2 a0_3 a0_4 (a1_0.extract 0 ((mn (a1_0.size : Int) 1100) : Int).toNat) a1_1).bind fun bt268 => (if bt268.2 = 0 then ((head_Open.f k bt268.1).bind fun bt270 => (if (bt268.1.size : Int) = a1_1 then (if bt270.2.2.2.2.2.2 = 0 then (if (!(bt270.1 == a0_0) || (!(bt270.2.1 == a0_1) || (!(bt270.2.2.1 == a0_2) || (!(bt270.2.2.2.1 == a0_3) || (!(bt270.2.2.2.2.1 == a0_4)))))) = true then (none) else (if (bt270.2.2.2.2.2.1.size : Int) = (wrap64 (a1_1 - 16)) then (if 0 ≤ (mn ((a1_0.extract 0 ((mn (a1_0.size : Int) 1100) : Int).toNat).size : Int) (bt270.2.2.2.2.2.1.size : Int)) then (if (mn ((a1_0.extract 0 ((mn (a1_0.size : Int) 1100) : Int).toNat).size : Int) (bt270.2.2.2.2.2.1.size : Int)) ≤ (bt270.2.2.2.2.2.1.size : Int) then (if (bt270.2.2.2.2.2.1.extract 0 ((mn ((a1_0.extract 0 ((mn (a1_0.size : Int) 1100) : Int).toNat).size : Int) (bt270.2.2.2.2.2.1.size : Int)) : Int).toNat).toList = (a1_0.extract 0 ((mn (a1_0.size : Int) 1100) : Int).toNat).toList then ((withyref01_Repeat.f k 0 (wrap64 ((wrap64 (a1_1 - 16)) - ((a1_0.extract 0 ((mn (a1_0.size : Int) 1100) : Int).toNat).size : Int)))).bind fun t278 => (if (a1_0.extract 0 ((mn (a1_0.size : Int) 1100) : Int).toNat).size + t278.size ≤ 9223372036854775807 then (if bt270.2.2.2.2.2.1.toList = ((a1_0.extract 0 ((mn (a1_0.size : Int) 1100) : Int).toNat) ++ t278).toList then (withylaw07_HeadBack.j0 k (a2.extract 0 ((mn (a2.size : Int) 1100) : Int).toNat)) else (none)) else (none))) else (none)) else (none)) else (none)) else (none))) else (none)) else (none))) else (withylaw07_HeadBack.j0 k (a2.extract 0 ((mn (a2.size : Int) 1100) : Int).toNat)))) else (none)) else (none)) else (none)) else (none)
theorem withylaw07_HeadBack.mono_l : ∀ k, (∀ y0, LeO (withylaw07_HeadBack.j0 k y0) (withylaw07_HeadBack.j0 (k + 1) y0))
  | 0 => fun _ r h => by simp [withylaw07_HeadBack.j0] at h
  | k + 1 => by
    have ih0 := withylaw07_HeadBack.mono_l k
    · intro y0
      unfold withylaw07_HeadBack.j0
      repeat' first
      | (with_reducible exact ih0 _)
      | (with_reducible exact head_Open.mono _ _)
      | (with_reducible exact head_Right.mono _ _ _ _ _ _)
      | (with_reducible exact head_Seal.mono _ _ _ _ _ _ _ _)
      | (with_reducible exact withylaw07_fixed.mono _)
      | (with_reducible exact withyref01_Repeat.mono _ _ _)
      | (with_reducible exact LeO.refl _)
      | (with_reducible exact LeO.none _)
      | (with_reducible refine LeO.ite ?_ ?_)
      | (with_reducible refine LeO.bind ?_ (fun _ => ?_))
      | exact ih0 _
      | exact head_Open.mono _ _
      | exact head_Right.mono _ _ _ _ _ _
      | exact head_Seal.mono _ _ _ _ _ _ _ _
      | exact withylaw07_fixed.mono _
      | exact withyref01_Repeat.mono _ _ _
      | exact LeO.none _
      | refine LeO.ite ?_ ?_
      | refine LeO.bind ?_ (fun _ => ?_)
theorem withylaw07_HeadBack.mono : ∀ a0 a1 a2 a3 a4 a5 a6 a7 k, LeO (withylaw07_HeadBack.f k a0 a1 a2 a3 a4 a5 a6 a7) (withylaw07_HeadBack.f (k + 1) a0 a1 a2 a3 a4 a5 a6 a7) := by
  intro a0 a1 a2 a3 a4 a5 a6 a7 k
  have ih0 := withylaw07_HeadBack.mono_l k
  unfold withylaw07_HeadBack.f
  repeat' first
      | (with_reducible exact ih0 _)
      | (with_reducible exact head_Open.mono _ _)
      | (with_reducible exact head_Right.mono _ _ _ _ _ _)
      | (with_reducible exact head_Seal.mono _ _ _ _ _ _ _ _)
      | (with_reducible exact withylaw07_fixed.mono _)
      | (with_reducible exact withyref01_Repeat.mono _ _ _)
      | (with_reducible exact LeO.refl _)
      | (with_reducible exact LeO.none _)
      | (with_reducible refine LeO.ite ?_ ?_)
      | (with_reducible refine LeO.bind ?_ (fun _ => ?_))
      | exact ih0 _
      | exact head_Open.mono _ _
      | exact head_Right.mono _ _ _ _ _ _
      | exact head_Seal.mono _ _ _ _ _ _ _ _
      | exact withylaw07_fixed.mono _
      | exact withyref01_Repeat.mono _ _ _
      | exact LeO.none _
      | refine LeO.ite ?_ ?_
      | refine LeO.bind ?_ (fun _ => ?_)
set_option maxHeartbeats 8000000 in
set_option maxRecDepth 100000 in
theorem withylaw07_HeadBack.calls (k : Nat) (a0_0 : Int) (a0_1 : Int) (a0_2 : Int) (a0_3 : Int) (a0_4 : Int) (a1_0 : ByteArray) (a1_1 : Int) (a2 : ByteArray) (r : Bool) (w : World) (h : withylaw07_HeadBack.f k a0_0 a0_1 a0_2 a0_3 a0_4 a1_0 a1_1 a2 = some r) :
    Calls Try.prog 4 #[.agg #[.int .i64 a0_0, .int .i64 a0_1, .int .i64 a0_2, .int .i64 a0_3, .int .i64 a0_4], .agg #[.string a1_0, .int .i64 a1_1], .string a2] w fun e w' => e = .returned (.bool r) ∧ Below w.heap.size w w' := by
  have hu23 := Try.underlying23
  have hu25 := Try.underlying25
  have HB := Aside0.mk (Below.refl w.heap.size w)
  have H : (if 0 ≤ (mn (a1_0.size : Int) 1100) then (if (mn (a1_0.size : Int) 1100) ≤ (a1_0.size : Int) then (if 0 ≤ (mn (a2.size : Int) 1100) then (if (mn (a2.size : Int) 1100) ≤ (a2.size : Int) then ((head_Seal.f k a0_0 a0_1 a0_2 a0_3 a0_4 (a1_0.extract 0 ((mn (a1_0.size : Int) 1100) : Int).toNat) a1_1).bind fun bt268 => (if bt268.2 = 0 then ((head_Open.f k bt268.1).bind fun bt270 => (if (bt268.1.size : Int) = a1_1 then (if bt270.2.2.2.2.2.2 = 0 then (if (!(bt270.1 == a0_0) || (!(bt270.2.1 == a0_1) || (!(bt270.2.2.1 == a0_2) || (!(bt270.2.2.2.1 == a0_3) || (!(bt270.2.2.2.2.1 == a0_4)))))) = true then (none) else (if (bt270.2.2.2.2.2.1.size : Int) = (wrap64 (a1_1 - 16)) then (if 0 ≤ (mn ((a1_0.extract 0 ((mn (a1_0.size : Int) 1100) : Int).toNat).size : Int) (bt270.2.2.2.2.2.1.size : Int)) then (if (mn ((a1_0.extract 0 ((mn (a1_0.size : Int) 1100) : Int).toNat).size : Int) (bt270.2.2.2.2.2.1.size : Int)) ≤ (bt270.2.2.2.2.2.1.size : Int) then (if (bt270.2.2.2.2.2.1.extract 0 ((mn ((a1_0.extract 0 ((mn (a1_0.size : Int) 1100) : Int).toNat).size : Int) (bt270.2.2.2.2.2.1.size : Int)) : Int).toNat).toList = (a1_0.extract 0 ((mn (a1_0.size : Int) 1100) : Int).toNat).toList then ((withyref01_Repeat.f k 0 (wrap64 ((wrap64 (a1_1 - 16)) - ((a1_0.extract 0 ((mn (a1_0.size : Int) 1100) : Int).toNat).size : Int)))).bind fun t278 => (if (a1_0.extract 0 ((mn (a1_0.size : Int) 1100) : Int).toNat).size + t278.size ≤ 9223372036854775807 then (if bt270.2.2.2.2.2.1.toList = ((a1_0.extract 0 ((mn (a1_0.size : Int) 1100) : Int).toNat) ++ t278).toList then (withylaw07_HeadBack.j0 k (a2.extract 0 ((mn (a2.size : Int) 1100) : Int).toNat)) else (none)) else (none))) else (none)) else (none)) else (none)) else (none))) else (none)) else (none))) else (withylaw07_HeadBack.j0 k (a2.extract 0 ((mn (a2.size : Int) 1100) : Int).toNat)))) else (none)) else (none)) else (none)) else (none)) = some r := h
  clear h
  obtain ⟨ji4, hji4⟩ : ∃ j_ : Int, (mn (a1_0.size : Int) 1100) = j_ := ⟨_, rfl⟩
  replace H : (if 0 ≤ (ji4) then (if (ji4) ≤ (a1_0.size : Int) then (if 0 ≤ (mn (a2.size : Int) 1100) then (if (mn (a2.size : Int) 1100) ≤ (a2.size : Int) then ((head_Seal.f k a0_0 a0_1 a0_2 a0_3 a0_4 (a1_0.extract 0 ((ji4) : Int).toNat) a1_1).bind fun bt268 => (if bt268.2 = 0 then ((head_Open.f k bt268.1).bind fun bt270 => (if (bt268.1.size : Int) = a1_1 then (if bt270.2.2.2.2.2.2 = 0 then (if (!(bt270.1 == a0_0) || (!(bt270.2.1 == a0_1) || (!(bt270.2.2.1 == a0_2) || (!(bt270.2.2.2.1 == a0_3) || (!(bt270.2.2.2.2.1 == a0_4)))))) = true then (none) else (if (bt270.2.2.2.2.2.1.size : Int) = (wrap64 (a1_1 - 16)) then (if 0 ≤ (mn ((a1_0.extract 0 ((ji4) : Int).toNat).size : Int) (bt270.2.2.2.2.2.1.size : Int)) then (if (mn ((a1_0.extract 0 ((ji4) : Int).toNat).size : Int) (bt270.2.2.2.2.2.1.size : Int)) ≤ (bt270.2.2.2.2.2.1.size : Int) then (if (bt270.2.2.2.2.2.1.extract 0 ((mn ((a1_0.extract 0 ((ji4) : Int).toNat).size : Int) (bt270.2.2.2.2.2.1.size : Int)) : Int).toNat).toList = (a1_0.extract 0 ((ji4) : Int).toNat).toList then ((withyref01_Repeat.f k 0 (wrap64 ((wrap64 (a1_1 - 16)) - ((a1_0.extract 0 ((ji4) : Int).toNat).size : Int)))).bind fun t278 => (if (a1_0.extract 0 ((ji4) : Int).toNat).size + t278.size ≤ 9223372036854775807 then (if bt270.2.2.2.2.2.1.toList = ((a1_0.extract 0 ((ji4) : Int).toNat) ++ t278).toList then (withylaw07_HeadBack.j0 k (a2.extract 0 ((mn (a2.size : Int) 1100) : Int).toNat)) else (none)) else (none))) else (none)) else (none)) else (none)) else (none))) else (none)) else (none))) else (withylaw07_HeadBack.j0 k (a2.extract 0 ((mn (a2.size : Int) 1100) : Int).toNat)))) else (none)) else (none)) else (none)) else (none)) = some r := by first | (rw [hji4] at H; exact H) | (simp only [hji4] at H ⊢; exact H)
  (try (have hji4h : ji4 ≤ 1100 := by (rw [← hji4]; unfold mn; (repeat' split) <;> omega)))
  (try (have hji4g : ji4 ≤ 64 := by omega))
  (try (have hji4l : 0 ≤ ji4 := by (rw [← hji4]; unfold mn; (repeat' split) <;> omega)))
  (try (have hji4m : 0 ≤ ji4 := by omega))
  have hji4_ : (if 1100 < (a1_0.size : Int) then 1100 else (a1_0.size : Int)) = ji4 := hji4
  by_cases c5 : 0 ≤ (ji4)
  · rw [if_pos c5] at H
    have c5b0 := eq_true c5
    have c5b1 : decide (0 ≤ (ji4)) = true := decide_eq_true c5
    clear c5
    by_cases c6 : (ji4) ≤ (a1_0.size : Int)
    · rw [if_pos c6] at H
      have c6b0 := eq_true c6
      have c6b1 : decide ((ji4) ≤ (a1_0.size : Int)) = true := decide_eq_true c6
      clear c6
      obtain ⟨js7, hjs7⟩ : ∃ j_ : ByteArray, (a1_0.extract 0 ((ji4) : Int).toNat) = j_ := ⟨_, rfl⟩
      replace H : (if 0 ≤ (mn (a2.size : Int) 1100) then (if (mn (a2.size : Int) 1100) ≤ (a2.size : Int) then ((head_Seal.f k a0_0 a0_1 a0_2 a0_3 a0_4 (js7) a1_1).bind fun bt268 => (if bt268.2 = 0 then ((head_Open.f k bt268.1).bind fun bt270 => (if (bt268.1.size : Int) = a1_1 then (if bt270.2.2.2.2.2.2 = 0 then (if (!(bt270.1 == a0_0) || (!(bt270.2.1 == a0_1) || (!(bt270.2.2.1 == a0_2) || (!(bt270.2.2.2.1 == a0_3) || (!(bt270.2.2.2.2.1 == a0_4)))))) = true then (none) else (if (bt270.2.2.2.2.2.1.size : Int) = (wrap64 (a1_1 - 16)) then (if 0 ≤ (mn ((js7).size : Int) (bt270.2.2.2.2.2.1.size : Int)) then (if (mn ((js7).size : Int) (bt270.2.2.2.2.2.1.size : Int)) ≤ (bt270.2.2.2.2.2.1.size : Int) then (if (bt270.2.2.2.2.2.1.extract 0 ((mn ((js7).size : Int) (bt270.2.2.2.2.2.1.size : Int)) : Int).toNat).toList = (js7).toList then ((withyref01_Repeat.f k 0 (wrap64 ((wrap64 (a1_1 - 16)) - ((js7).size : Int)))).bind fun t278 => (if (js7).size + t278.size ≤ 9223372036854775807 then (if bt270.2.2.2.2.2.1.toList = ((js7) ++ t278).toList then (withylaw07_HeadBack.j0 k (a2.extract 0 ((mn (a2.size : Int) 1100) : Int).toNat)) else (none)) else (none))) else (none)) else (none)) else (none)) else (none))) else (none)) else (none))) else (withylaw07_HeadBack.j0 k (a2.extract 0 ((mn (a2.size : Int) 1100) : Int).toNat)))) else (none)) else (none)) = some r := by first | (rw [hjs7] at H; exact H) | (simp only [hjs7] at H ⊢; exact H)
      obtain ⟨ji8, hji8⟩ : ∃ j_ : Int, (mn (a2.size : Int) 1100) = j_ := ⟨_, rfl⟩
      replace H : (if 0 ≤ (ji8) then (if (ji8) ≤ (a2.size : Int) then ((head_Seal.f k a0_0 a0_1 a0_2 a0_3 a0_4 (js7) a1_1).bind fun bt268 => (if bt268.2 = 0 then ((head_Open.f k bt268.1).bind fun bt270 => (if (bt268.1.size : Int) = a1_1 then (if bt270.2.2.2.2.2.2 = 0 then (if (!(bt270.1 == a0_0) || (!(bt270.2.1 == a0_1) || (!(bt270.2.2.1 == a0_2) || (!(bt270.2.2.2.1 == a0_3) || (!(bt270.2.2.2.2.1 == a0_4)))))) = true then (none) else (if (bt270.2.2.2.2.2.1.size : Int) = (wrap64 (a1_1 - 16)) then (if 0 ≤ (mn ((js7).size : Int) (bt270.2.2.2.2.2.1.size : Int)) then (if (mn ((js7).size : Int) (bt270.2.2.2.2.2.1.size : Int)) ≤ (bt270.2.2.2.2.2.1.size : Int) then (if (bt270.2.2.2.2.2.1.extract 0 ((mn ((js7).size : Int) (bt270.2.2.2.2.2.1.size : Int)) : Int).toNat).toList = (js7).toList then ((withyref01_Repeat.f k 0 (wrap64 ((wrap64 (a1_1 - 16)) - ((js7).size : Int)))).bind fun t278 => (if (js7).size + t278.size ≤ 9223372036854775807 then (if bt270.2.2.2.2.2.1.toList = ((js7) ++ t278).toList then (withylaw07_HeadBack.j0 k (a2.extract 0 ((ji8) : Int).toNat)) else (none)) else (none))) else (none)) else (none)) else (none)) else (none))) else (none)) else (none))) else (withylaw07_HeadBack.j0 k (a2.extract 0 ((ji8) : Int).toNat)))) else (none)) else (none)) = some r := by first | (rw [hji8] at H; exact H) | (simp only [hji8] at H ⊢; exact H)
      (try (have hji8h : ji8 ≤ 1100 := by (rw [← hji8]; unfold mn; (repeat' split) <;> omega)))
      (try (have hji8g : ji8 ≤ 64 := by omega))
      (try (have hji8l : 0 ≤ ji8 := by (rw [← hji8]; unfold mn; (repeat' split) <;> omega)))
      (try (have hji8m : 0 ≤ ji8 := by omega))
      have hji8_ : (if 1100 < (a2.size : Int) then 1100 else (a2.size : Int)) = ji8 := hji8
      by_cases c9 : 0 ≤ (ji8)
      · rw [if_pos c9] at H
        have c9b0 := eq_true c9
        have c9b1 : decide (0 ≤ (ji8)) = true := decide_eq_true c9
        clear c9
        by_cases c10 : (ji8) ≤ (a2.size : Int)
        · rw [if_pos c10] at H
          have c10b0 := eq_true c10
          have c10b1 : decide ((ji8) ≤ (a2.size : Int)) = true := decide_eq_true c10
          clear c10
          obtain ⟨js11, hjs11⟩ : ∃ j_ : ByteArray, (a2.extract 0 ((ji8) : Int).toNat) = j_ := ⟨_, rfl⟩
          replace H : ((head_Seal.f k a0_0 a0_1 a0_2 a0_3 a0_4 (js7) a1_1).bind fun bt268 => (if bt268.2 = 0 then ((head_Open.f k bt268.1).bind fun bt270 => (if (bt268.1.size : Int) = a1_1 then (if bt270.2.2.2.2.2.2 = 0 then (if (!(bt270.1 == a0_0) || (!(bt270.2.1 == a0_1) || (!(bt270.2.2.1 == a0_2) || (!(bt270.2.2.2.1 == a0_3) || (!(bt270.2.2.2.2.1 == a0_4)))))) = true then (none) else (if (bt270.2.2.2.2.2.1.size : Int) = (wrap64 (a1_1 - 16)) then (if 0 ≤ (mn ((js7).size : Int) (bt270.2.2.2.2.2.1.size : Int)) then (if (mn ((js7).size : Int) (bt270.2.2.2.2.2.1.size : Int)) ≤ (bt270.2.2.2.2.2.1.size : Int) then (if (bt270.2.2.2.2.2.1.extract 0 ((mn ((js7).size : Int) (bt270.2.2.2.2.2.1.size : Int)) : Int).toNat).toList = (js7).toList then ((withyref01_Repeat.f k 0 (wrap64 ((wrap64 (a1_1 - 16)) - ((js7).size : Int)))).bind fun t278 => (if (js7).size + t278.size ≤ 9223372036854775807 then (if bt270.2.2.2.2.2.1.toList = ((js7) ++ t278).toList then (withylaw07_HeadBack.j0 k js11) else (none)) else (none))) else (none)) else (none)) else (none)) else (none))) else (none)) else (none))) else (withylaw07_HeadBack.j0 k js11))) = some r := by first | (rw [hjs11] at H; exact H) | (simp only [hjs11] at H ⊢; exact H)
          replace H := Option.bind_eq_some_iff.mp H
          obtain ⟨⟨t268, t269⟩, A120, H⟩ := H
          replace H : (if t269 = 0 then ((head_Open.f k t268).bind fun bt270 => (if (t268.size : Int) = a1_1 then (if bt270.2.2.2.2.2.2 = 0 then (if (!(bt270.1 == a0_0) || (!(bt270.2.1 == a0_1) || (!(bt270.2.2.1 == a0_2) || (!(bt270.2.2.2.1 == a0_3) || (!(bt270.2.2.2.2.1 == a0_4)))))) = true then (none) else (if (bt270.2.2.2.2.2.1.size : Int) = (wrap64 (a1_1 - 16)) then (if 0 ≤ (mn ((js7).size : Int) (bt270.2.2.2.2.2.1.size : Int)) then (if (mn ((js7).size : Int) (bt270.2.2.2.2.2.1.size : Int)) ≤ (bt270.2.2.2.2.2.1.size : Int) then (if (bt270.2.2.2.2.2.1.extract 0 ((mn ((js7).size : Int) (bt270.2.2.2.2.2.1.size : Int)) : Int).toNat).toList = (js7).toList then ((withyref01_Repeat.f k 0 (wrap64 ((wrap64 (a1_1 - 16)) - ((js7).size : Int)))).bind fun t278 => (if (js7).size + t278.size ≤ 9223372036854775807 then (if bt270.2.2.2.2.2.1.toList = ((js7) ++ t278).toList then (withylaw07_HeadBack.j0 k js11) else (none)) else (none))) else (none)) else (none)) else (none)) else (none))) else (none)) else (none))) else (withylaw07_HeadBack.j0 k js11)) = some r := H
          have A12 := Aside0.mk A120
          clear A120
          have HC13 := Aside0.mk H
          clear H
          go_enter Try.func4, Try.ntmps4
          (try simp only [List.append_eq, List.cons_append, List.nil_append])
          go_upto_if 39 with (first | ((with_reducible refine gate_dst (N := 3) rfl ?_); (try (refine gate_guard (by rfl) ?_; dsimp only)); refine box_event ?hg (N := 3) ?hd (cs := #[.int .i64 a0_0, .int .i64 a0_1, .int .i64 a0_2, .int .i64 a0_3, .int .i64 a0_4]) (t := 23) ?hr ?_; (case hd => rfl); (case hg => rfl); (case hr => first | (go_simp; done) | (go_simp; rfl)); intro gb266 hg w14 hbox hb; have n0_ := Aside0.mk (below_step (by repeat (first | (with_reducible first | exact HB.out | apply below_alloc | apply pw_below_drewN | apply below_drew1) | exact HB.out)) hb); have n1_ := Aside0.mk (hbox); have n2_ := Aside0.mk ((by rw [hg]; exact (below_size (by repeat (first | (with_reducible first | exact HB.out | apply below_alloc | apply pw_below_drewN | apply below_drew1) | exact HB.out))) : w.heap.size ≤ gb266)); have n3_ := Aside0.mk ((by rw [hg]; exact (below_size (by repeat (first | (with_reducible first | exact HB.out | apply below_alloc | apply pw_below_drewN | apply below_drew1) | exact HB.out))) : w.heap.size ≤ gb266)); clear HB; have HB := n0_; have BK266 := n1_; have GW266 := n2_; have GE266 := n3_; clear n0_ n1_ n2_ n3_; clear hb hbox hg) | ((with_reducible refine gate_dst (N := 4) rfl ?_); (try (refine gate_guard (by rfl) ?_; dsimp only)); refine box_event ?hg (N := 4) ?hd (cs := #[.string a1_0, .int .i64 a1_1]) (t := 25) ?hr ?_; (case hd => rfl); (case hg => rfl); (case hr => first | (go_simp; done) | (go_simp; rfl)); intro gb267 hg w15 hbox hb; have n0_ := Aside0.mk (blk_below (g := gb266) (o := .cells #[.int .i64 a0_0, .int .i64 a0_1, .int .i64 a0_2, .int .i64 a0_3, .int .i64 a0_4] 23 (0, 0)) (by (with_reducible repeat (first | refine blk_drewN ?_ _ | refine blk_drew ?_ | refine blk_alloc ?_ _)); exact BK266.out) hb); have n1_ := Aside0.mk (below_step (by repeat (first | (with_reducible first | exact HB.out | apply below_alloc | apply pw_below_drewN | apply below_drew1 | refine below_set ?_ GE266.out) | exact HB.out)) hb); have n2_ := Aside0.mk (hbox); have n3_ := Aside0.mk ((by rw [hg]; exact (below_size (by repeat (first | (with_reducible first | exact HB.out | apply below_alloc | apply pw_below_drewN | apply below_drew1 | refine below_set ?_ GE266.out) | exact HB.out))) : w.heap.size ≤ gb267)); have n4_ := Aside0.mk ((by rw [hg]; exact (below_size (by repeat (first | (with_reducible first | exact HB.out | apply below_alloc | apply pw_below_drewN | apply below_drew1 | refine below_set ?_ GE266.out) | exact HB.out))) : w.heap.size ≤ gb267)); have n5_ := Aside0.mk ((by rw [hg]; exact Nat.ne_of_lt (blk_lt (g := gb266) (o := .cells #[.int .i64 a0_0, .int .i64 a0_1, .int .i64 a0_2, .int .i64 a0_3, .int .i64 a0_4] 23 (0, 0)) (by (with_reducible repeat (first | refine blk_drewN ?_ _ | refine blk_drew ?_ | refine blk_alloc ?_ _)); exact BK266.out)) : gb266 ≠ gb267)); have n6_ := Aside0.mk ((by rw [hg]; exact Nat.ne_of_gt (blk_lt (g := gb266) (o := .cells #[.int .i64 a0_0, .int .i64 a0_1, .int .i64 a0_2, .int .i64 a0_3, .int .i64 a0_4] 23 (0, 0)) (by (with_reducible repeat (first | refine blk_drewN ?_ _ | refine blk_drew ?_ | refine blk_alloc ?_ _)); exact BK266.out)) : gb267 ≠ gb266)); clear BK266; clear HB; have BK266 := n0_; have HB := n1_; have BK267 := n2_; have GW267 := n3_; have GE267 := n4_; have NB266_267 := n5_; have NB267_266 := n6_; clear n0_ n1_ n2_ n3_ n4_ n5_ n6_; clear hb hbox hg; have hnb16 := NB267_266.out; have hnc16 := NB266_267.out; have hcz17_0 : w15.cell? ⟨gb267, 0, none⟩ = some (.string a1_0) := (blk_cell BK267.out 0).trans rfl; have hcz17_1 : w15.cell? ⟨gb267, 1, none⟩ = some (.int .i64 a1_1) := (blk_cell BK267.out 1).trans rfl; have hfz17_0 := blk_frozen BK267.out 0; have hfz17_1 := blk_frozen BK267.out 1; have hcz18_0 : w15.cell? ⟨gb266, 0, none⟩ = some (.int .i64 a0_0) := (blk_cell BK266.out 0).trans rfl; have hcz18_1 : w15.cell? ⟨gb266, 1, none⟩ = some (.int .i64 a0_1) := (blk_cell BK266.out 1).trans rfl; have hcz18_2 : w15.cell? ⟨gb266, 2, none⟩ = some (.int .i64 a0_2) := (blk_cell BK266.out 2).trans rfl; have hcz18_3 : w15.cell? ⟨gb266, 3, none⟩ = some (.int .i64 a0_3) := (blk_cell BK266.out 3).trans rfl; have hcz18_4 : w15.cell? ⟨gb266, 4, none⟩ = some (.int .i64 a0_4) := (blk_cell BK266.out 4).trans rfl; have hfz18_0 := blk_frozen BK266.out 0; have hfz18_1 := blk_frozen BK266.out 1; have hfz18_2 := blk_frozen BK266.out 2; have hfz18_3 := blk_frozen BK266.out 3; have hfz18_4 := blk_frozen BK266.out 4) | ((with_reducible refine gate_callee (f := 9) rfl ?_); refine goesL_ (some 35) rfl rfl Try.func9 (by kernel_rfl) rfl #[.agg #[.int .i64 a0_0, .int .i64 a0_1, .int .i64 a0_2, .int .i64 a0_3, .int .i64 a0_4], .string js7, .int .i64 a1_1] rfl (by (try simp only [List.map_toArray, List.map_cons, List.map_nil]); first | done | rfl | (simp only [List.length_drop, List.length_take]; rfl)) ?_; (with_reducible refine (head_Seal.calls k a0_0 a0_1 a0_2 a0_3 a0_4 js7 a1_1 t268 t269 _ A12.out).mono ?_); rintro e w19 ⟨rfl, hb⟩; refine ⟨_, rfl, ?_⟩; have n0_ := Aside0.mk (blk_below (g := gb266) (o := .cells #[.int .i64 a0_0, .int .i64 a0_1, .int .i64 a0_2, .int .i64 a0_3, .int .i64 a0_4] 23 (0, 0)) (by (with_reducible repeat (first | refine blk_drewN ?_ _ | refine blk_drew ?_ | refine blk_alloc ?_ _)); exact BK266.out) hb); have n1_ := Aside0.mk (blk_below (g := gb267) (o := .cells #[.string a1_0, .int .i64 a1_1] 25 (0, 0)) (by (with_reducible repeat (first | refine blk_drewN ?_ _ | refine blk_drew ?_ | refine blk_alloc ?_ _)); exact BK267.out) hb); have n2_ := Aside0.mk (below_step (by repeat (first | (with_reducible first | exact HB.out | apply below_alloc | apply pw_below_drewN | apply below_drew1 | refine below_set ?_ GE266.out | refine below_set ?_ GE267.out) | exact HB.out)) hb); clear BK266; clear BK267; clear HB; have BK266 := n0_; have BK267 := n1_; have HB := n2_; clear n0_ n1_ n2_; (try clear hb); (try clear hb2); (try clear hk); (try clear hi)))
          (try simp only [Act.put, List.setIfInBounds_toArray, List.set_cons_zero, List.set_cons_succ])
          go_cut [] (fun wc => ∃ (kq : Nat), Aside0 (withylaw07_HeadBack.j0 kq js11 = some r) ∧ Aside0 (kq ≤ k) ∧ Aside0 (wc.heap[gb266]? = some (.cells #[.int .i64 a0_0, .int .i64 a0_1, .int .i64 a0_2, .int .i64 a0_3, .int .i64 a0_4] 23 (0, 0))) ∧ Aside0 (wc.heap[gb267]? = some (.cells #[.string a1_0, .int .i64 a1_1] 25 (0, 0))) ∧ Aside0 (Below w.heap.size w wc))
          case first =>
            have H := HC13.out
            clear HC13
            by_cases c20 : t269 = 0
            · rw [if_pos c20] at H
              have c20b0 : (t269 == 0) = true := beq_iff_eq.mpr c20
              have c20b1 : (t269 != 0) = false := bne_eq_false_iff_eq.mpr c20
              clear c20
              (first | rw [c20b0] | (simp only [i64_w, i32_w]; rw [c20b0]) | rw [c20b1] | skip)
              replace H := Option.bind_eq_some_iff.mp H
              obtain ⟨⟨t270, t271, t272, t273, t274, t275, t276⟩, A210, H⟩ := H
              replace H : (if (t268.size : Int) = a1_1 then (if t276 = 0 then (if (!(t270 == a0_0) || (!(t271 == a0_1) || (!(t272 == a0_2) || (!(t273 == a0_3) || (!(t274 == a0_4)))))) = true then (none) else (if (t275.size : Int) = (wrap64 (a1_1 - 16)) then (if 0 ≤ (mn ((js7).size : Int) (t275.size : Int)) then (if (mn ((js7).size : Int) (t275.size : Int)) ≤ (t275.size : Int) then (if (t275.extract 0 ((mn ((js7).size : Int) (t275.size : Int)) : Int).toNat).toList = (js7).toList then ((withyref01_Repeat.f k 0 (wrap64 ((wrap64 (a1_1 - 16)) - ((js7).size : Int)))).bind fun t278 => (if (js7).size + t278.size ≤ 9223372036854775807 then (if t275.toList = ((js7) ++ t278).toList then (withylaw07_HeadBack.j0 k js11) else (none)) else (none))) else (none)) else (none)) else (none)) else (none))) else (none)) else (none)) = some r := H
              have A21 := Aside0.mk A210
              clear A210
              by_cases c22 : (t268.size : Int) = a1_1
              · rw [if_pos c22] at H
                have c22b0 : ((t268.size : Int) == a1_1) = true := beq_iff_eq.mpr c22
                have c22b1 : ((t268.size : Int) != a1_1) = false := bne_eq_false_iff_eq.mpr c22
                clear c22
                by_cases c23 : t276 = 0
                · rw [if_pos c23] at H
                  have c23b0 : (t276 == 0) = true := beq_iff_eq.mpr c23
                  have c23b1 : (t276 != 0) = false := bne_eq_false_iff_eq.mpr c23
                  clear c23
                  by_cases c24 : (!(t270 == a0_0) || (!(t271 == a0_1) || (!(t272 == a0_2) || (!(t273 == a0_3) || (!(t274 == a0_4)))))) = true
                  · rw [if_pos c24] at H
                    exact absurd H (by simp)
                  · rw [if_neg c24] at H
                    have c24b0 : (!(t270 == a0_0) || (!(t271 == a0_1) || (!(t272 == a0_2) || (!(t273 == a0_3) || (!(t274 == a0_4)))))) = false := by simpa using c24
                    clear c24
                    by_cases c25 : (t275.size : Int) = (wrap64 (a1_1 - 16))
                    · rw [if_pos c25] at H
                      have c25b0 : ((t275.size : Int) == (wrap64 (a1_1 - 16))) = true := beq_iff_eq.mpr c25
                      have c25b1 : ((t275.size : Int) != (wrap64 (a1_1 - 16))) = false := bne_eq_false_iff_eq.mpr c25
                      clear c25
                      obtain ⟨ji26, hji26⟩ : ∃ j_ : Int, (mn ((js7).size : Int) (t275.size : Int)) = j_ := ⟨_, rfl⟩
                      replace H : (if 0 ≤ (ji26) then (if (ji26) ≤ (t275.size : Int) then (if (t275.extract 0 ((ji26) : Int).toNat).toList = (js7).toList then ((withyref01_Repeat.f k 0 (wrap64 ((wrap64 (a1_1 - 16)) - ((js7).size : Int)))).bind fun t278 => (if (js7).size + t278.size ≤ 9223372036854775807 then (if t275.toList = ((js7) ++ t278).toList then (withylaw07_HeadBack.j0 k js11) else (none)) else (none))) else (none)) else (none)) else (none)) = some r := by first | (rw [hji26] at H; exact H) | (simp only [hji26] at H ⊢; exact H)
                      (try rw [hji26] at A21)
                      have hji26_ : (if (t275.size : Int) < ((js7).size : Int) then (t275.size : Int) else ((js7).size : Int)) = ji26 := hji26
                      (try (have hji26n : (if t275.size < (js7).size then (t275.size : Int) else ((js7).size : Int)) = ji26 := by simpa only [Int.ofNat_lt] using hji26_))
                      by_cases c27 : 0 ≤ (ji26)
                      · rw [if_pos c27] at H
                        have c27b0 := eq_true c27
                        have c27b1 : decide (0 ≤ (ji26)) = true := decide_eq_true c27
                        clear c27
                        by_cases c28 : (ji26) ≤ (t275.size : Int)
                        · rw [if_pos c28] at H
                          have c28b0 := eq_true c28
                          have c28b1 : decide ((ji26) ≤ (t275.size : Int)) = true := decide_eq_true c28
                          clear c28
                          obtain ⟨js29, hjs29⟩ : ∃ j_ : ByteArray, (t275.extract 0 ((ji26) : Int).toNat) = j_ := ⟨_, rfl⟩
                          replace H : (if (js29).toList = (js7).toList then ((withyref01_Repeat.f k 0 (wrap64 ((wrap64 (a1_1 - 16)) - ((js7).size : Int)))).bind fun t278 => (if (js7).size + t278.size ≤ 9223372036854775807 then (if t275.toList = ((js7) ++ t278).toList then (withylaw07_HeadBack.j0 k js11) else (none)) else (none))) else (none)) = some r := by first | (rw [hjs29] at H; exact H) | (simp only [hjs29] at H ⊢; exact H)
                          (try rw [hjs29] at A21)
                          by_cases c30 : (js29).toList = (js7).toList
                          · rw [if_pos c30] at H
                            have c30b0 : ((js29).toList == (js7).toList) = true := beq_iff_eq.mpr c30
                            have c30b1 : ((js29).toList != (js7).toList) = false := bne_eq_false_iff_eq.mpr c30
                            clear c30
                            replace H := Option.bind_eq_some_iff.mp H
                            obtain ⟨t278, A310, H⟩ := H
                            replace H : (if (js7).size + t278.size ≤ 9223372036854775807 then (if t275.toList = ((js7) ++ t278).toList then (withylaw07_HeadBack.j0 k js11) else (none)) else (none)) = some r := H
                            have A31 := Aside0.mk A310
                            clear A310
                            by_cases c32 : (js7).size + t278.size ≤ 9223372036854775807
                            · rw [if_pos c32] at H
                              have c32b0 := eq_true c32
                              have c32b1 : decide ((js7).size + t278.size ≤ 9223372036854775807) = true := decide_eq_true c32
                              try have c32b2 : (9223372036854775807 < (js7).size + t278.size) = False := eq_false (Nat.not_lt.2 c32)
                              obtain ⟨js33, hjs33⟩ : ∃ j_ : ByteArray, ((js7) ++ t278) = j_ := ⟨_, rfl⟩
                              replace H : (if t275.toList = (js33).toList then (withylaw07_HeadBack.j0 k js11) else (none)) = some r := by first | (rw [hjs33] at H; exact H) | (simp only [hjs33] at H ⊢; exact H)
                              (try rw [hjs33] at A21)
                              (try rw [hjs33] at A31)
                              by_cases c34 : t275.toList = (js33).toList
                              · rw [if_pos c34] at H
                                have c34b0 : (t275.toList == (js33).toList) = true := beq_iff_eq.mpr c34
                                have c34b1 : (t275.toList != (js33).toList) = false := bne_eq_false_iff_eq.mpr c34
                                clear c34
                                have H' := Aside0.mk H
                                clear H
                                go_wp2_with (first | ((with_reducible refine gate_callee (f := 12) rfl ?_); refine goesL_ (some 42) rfl rfl Try.func12 (by kernel_rfl) rfl #[.string t268] rfl (by (try simp only [List.map_toArray, List.map_cons, List.map_nil]); first | done | rfl | (simp only [List.length_drop, List.length_take]; rfl)) ?_; (with_reducible refine (head_Open.calls k t268 t270 t271 t272 t273 t274 t275 t276 _ A21.out).mono ?_); rintro e w35 ⟨rfl, hb⟩; refine ⟨_, rfl, ?_⟩; have n0_ := Aside0.mk (blk_below (g := gb266) (o := .cells #[.int .i64 a0_0, .int .i64 a0_1, .int .i64 a0_2, .int .i64 a0_3, .int .i64 a0_4] 23 (0, 0)) (by (with_reducible repeat (first | refine blk_drewN ?_ _ | refine blk_drew ?_ | refine blk_alloc ?_ _)); exact BK266.out) hb); have n1_ := Aside0.mk (blk_below (g := gb267) (o := .cells #[.string a1_0, .int .i64 a1_1] 25 (0, 0)) (by (with_reducible repeat (first | refine blk_drewN ?_ _ | refine blk_drew ?_ | refine blk_alloc ?_ _)); exact BK267.out) hb); have n2_ := Aside0.mk (below_step (by repeat (first | (with_reducible first | exact HB.out | apply below_alloc | apply pw_below_drewN | apply below_drew1 | refine below_set ?_ GE266.out | refine below_set ?_ GE267.out) | exact HB.out)) hb); clear BK266; clear BK267; clear HB; have BK266 := n0_; have BK267 := n1_; have HB := n2_; clear n0_ n1_ n2_; (try clear hb); (try clear hb2); (try clear hk); (try clear hi)) | ((with_reducible refine gate_dst (N := 10) rfl ?_); (try (refine gate_guard (by rfl) ?_; dsimp only)); refine box_event ?hg (N := 10) ?hd (cs := #[.int .i64 0, .int .i64 0, .int .i64 0, .int .i64 0, .int .i64 0]) (t := 23) ?hr ?_; (case hd => rfl); (case hg => rfl); (case hr => first | (go_simp; done) | (go_simp; rfl)); intro gb277 hg w36 hbox hb; have n0_ := Aside0.mk (blk_below (g := gb266) (o := .cells #[.int .i64 a0_0, .int .i64 a0_1, .int .i64 a0_2, .int .i64 a0_3, .int .i64 a0_4] 23 (0, 0)) (by (with_reducible repeat (first | refine blk_drewN ?_ _ | refine blk_drew ?_ | refine blk_alloc ?_ _)); exact BK266.out) hb); have n1_ := Aside0.mk (blk_below (g := gb267) (o := .cells #[.string a1_0, .int .i64 a1_1] 25 (0, 0)) (by (with_reducible repeat (first | refine blk_drewN ?_ _ | refine blk_drew ?_ | refine blk_alloc ?_ _)); exact BK267.out) hb); have n2_ := Aside0.mk (below_step (by repeat (first | (with_reducible first | exact HB.out | apply below_alloc | apply pw_below_drewN | apply below_drew1 | refine below_set ?_ GE266.out | refine below_set ?_ GE267.out) | exact HB.out)) hb); have n3_ := Aside0.mk (hbox); have n4_ := Aside0.mk ((by rw [hg]; exact (below_size (by repeat (first | (with_reducible first | exact HB.out | apply below_alloc | apply pw_below_drewN | apply below_drew1 | refine below_set ?_ GE266.out | refine below_set ?_ GE267.out) | exact HB.out))) : w.heap.size ≤ gb277)); have n5_ := Aside0.mk ((by rw [hg]; exact (below_size (by repeat (first | (with_reducible first | exact HB.out | apply below_alloc | apply pw_below_drewN | apply below_drew1 | refine below_set ?_ GE266.out | refine below_set ?_ GE267.out) | exact HB.out))) : w.heap.size ≤ gb277)); have n6_ := Aside0.mk ((by rw [hg]; exact Nat.ne_of_lt (blk_lt (g := gb266) (o := .cells #[.int .i64 a0_0, .int .i64 a0_1, .int .i64 a0_2, .int .i64 a0_3, .int .i64 a0_4] 23 (0, 0)) (by (with_reducible repeat (first | refine blk_drewN ?_ _ | refine blk_drew ?_ | refine blk_alloc ?_ _)); exact BK266.out)) : gb266 ≠ gb277)); have n7_ := Aside0.mk ((by rw [hg]; exact Nat.ne_of_gt (blk_lt (g := gb266) (o := .cells #[.int .i64 a0_0, .int .i64 a0_1, .int .i64 a0_2, .int .i64 a0_3, .int .i64 a0_4] 23 (0, 0)) (by (with_reducible repeat (first | refine blk_drewN ?_ _ | refine blk_drew ?_ | refine blk_alloc ?_ _)); exact BK266.out)) : gb277 ≠ gb266)); have n8_ := Aside0.mk ((by rw [hg]; exact Nat.ne_of_lt (blk_lt (g := gb267) (o := .cells #[.string a1_0, .int .i64 a1_1] 25 (0, 0)) (by (with_reducible repeat (first | refine blk_drewN ?_ _ | refine blk_drew ?_ | refine blk_alloc ?_ _)); exact BK267.out)) : gb267 ≠ gb277)); have n9_ := Aside0.mk ((by rw [hg]; exact Nat.ne_of_gt (blk_lt (g := gb267) (o := .cells #[.string a1_0, .int .i64 a1_1] 25 (0, 0)) (by (with_reducible repeat (first | refine blk_drewN ?_ _ | refine blk_drew ?_ | refine blk_alloc ?_ _)); exact BK267.out)) : gb277 ≠ gb267)); clear BK266; clear BK267; clear HB; have BK266 := n0_; have BK267 := n1_; have HB := n2_; have BK277 := n3_; have GW277 := n4_; have GE277 := n5_; have NB266_277 := n6_; have NB277_266 := n7_; have NB267_277 := n8_; have NB277_267 := n9_; clear n0_ n1_ n2_ n3_ n4_ n5_ n6_ n7_ n8_ n9_; clear hb hbox hg; have hnb37 := NB277_266.out; have hnc37 := NB266_277.out; have hnb38 := NB277_267.out; have hnc38 := NB267_277.out; have hcz39_0 : w36.cell? ⟨gb277, 0, none⟩ = some (.int .i64 0) := (blk_cell BK277.out 0).trans rfl; have hcz39_1 : w36.cell? ⟨gb277, 1, none⟩ = some (.int .i64 0) := (blk_cell BK277.out 1).trans rfl; have hcz39_2 : w36.cell? ⟨gb277, 2, none⟩ = some (.int .i64 0) := (blk_cell BK277.out 2).trans rfl; have hcz39_3 : w36.cell? ⟨gb277, 3, none⟩ = some (.int .i64 0) := (blk_cell BK277.out 3).trans rfl; have hcz39_4 : w36.cell? ⟨gb277, 4, none⟩ = some (.int .i64 0) := (blk_cell BK277.out 4).trans rfl; have hfz39_0 := blk_frozen BK277.out 0; have hfz39_1 := blk_frozen BK277.out 1; have hfz39_2 := blk_frozen BK277.out 2; have hfz39_3 := blk_frozen BK277.out 3; have hfz39_4 := blk_frozen BK277.out 4; have hnb40 := NB267_266.out; have hnc40 := NB266_267.out; have hcz41_0 : w36.cell? ⟨gb267, 0, none⟩ = some (.string a1_0) := (blk_cell BK267.out 0).trans rfl; have hcz41_1 : w36.cell? ⟨gb267, 1, none⟩ = some (.int .i64 a1_1) := (blk_cell BK267.out 1).trans rfl; have hfz41_0 := blk_frozen BK267.out 0; have hfz41_1 := blk_frozen BK267.out 1; have hcz42_0 : w36.cell? ⟨gb266, 0, none⟩ = some (.int .i64 a0_0) := (blk_cell BK266.out 0).trans rfl; have hcz42_1 : w36.cell? ⟨gb266, 1, none⟩ = some (.int .i64 a0_1) := (blk_cell BK266.out 1).trans rfl; have hcz42_2 : w36.cell? ⟨gb266, 2, none⟩ = some (.int .i64 a0_2) := (blk_cell BK266.out 2).trans rfl; have hcz42_3 : w36.cell? ⟨gb266, 3, none⟩ = some (.int .i64 a0_3) := (blk_cell BK266.out 3).trans rfl; have hcz42_4 : w36.cell? ⟨gb266, 4, none⟩ = some (.int .i64 a0_4) := (blk_cell BK266.out 4).trans rfl; have hfz42_0 := blk_frozen BK266.out 0; have hfz42_1 := blk_frozen BK266.out 1; have hfz42_2 := blk_frozen BK266.out 2; have hfz42_3 := blk_frozen BK266.out 3; have hfz42_4 := blk_frozen BK266.out 4) | (go_at_call 17; (with_reducible refine (withyref01_Repeat.calls k 0 (wrap64 ((wrap64 (a1_1 - 16)) - ((js7).size : Int))) t278 _ A31.out).mono ?_); rintro e w43 ⟨rfl, hb⟩; have n0_ := Aside0.mk (blk_below (g := gb266) (o := .cells #[.int .i64 a0_0, .int .i64 a0_1, .int .i64 a0_2, .int .i64 a0_3, .int .i64 a0_4] 23 (0, 0)) (by (with_reducible repeat (first | refine blk_drewN ?_ _ | refine blk_drew ?_ | refine blk_alloc ?_ _)); refine blk_far ?_ NB266_277.out _; (with_reducible repeat (first | refine blk_drewN ?_ _ | refine blk_drew ?_ | refine blk_alloc ?_ _)); refine blk_far ?_ NB266_277.out _; (with_reducible repeat (first | refine blk_drewN ?_ _ | refine blk_drew ?_ | refine blk_alloc ?_ _)); refine blk_far ?_ NB266_277.out _; (with_reducible repeat (first | refine blk_drewN ?_ _ | refine blk_drew ?_ | refine blk_alloc ?_ _)); refine blk_far ?_ NB266_277.out _; (with_reducible repeat (first | refine blk_drewN ?_ _ | refine blk_drew ?_ | refine blk_alloc ?_ _)); refine blk_far ?_ NB266_277.out _; (with_reducible repeat (first | refine blk_drewN ?_ _ | refine blk_drew ?_ | refine blk_alloc ?_ _)); exact BK266.out) hb); have n1_ := Aside0.mk (blk_below (g := gb267) (o := .cells #[.string a1_0, .int .i64 a1_1] 25 (0, 0)) (by (with_reducible repeat (first | refine blk_drewN ?_ _ | refine blk_drew ?_ | refine blk_alloc ?_ _)); refine blk_far ?_ NB267_277.out _; (with_reducible repeat (first | refine blk_drewN ?_ _ | refine blk_drew ?_ | refine blk_alloc ?_ _)); refine blk_far ?_ NB267_277.out _; (with_reducible repeat (first | refine blk_drewN ?_ _ | refine blk_drew ?_ | refine blk_alloc ?_ _)); refine blk_far ?_ NB267_277.out _; (with_reducible repeat (first | refine blk_drewN ?_ _ | refine blk_drew ?_ | refine blk_alloc ?_ _)); refine blk_far ?_ NB267_277.out _; (with_reducible repeat (first | refine blk_drewN ?_ _ | refine blk_drew ?_ | refine blk_alloc ?_ _)); refine blk_far ?_ NB267_277.out _; (with_reducible repeat (first | refine blk_drewN ?_ _ | refine blk_drew ?_ | refine blk_alloc ?_ _)); exact BK267.out) hb); have n2_ := Aside0.mk (blk_below (g := gb277) (o := .cells #[.int .i64 t270, .int .i64 t271, .int .i64 t272, .int .i64 t273, .int .i64 t274] 23 (0, 0)) (by (with_reducible repeat (first | refine blk_drewN ?_ _ | refine blk_drew ?_ | refine blk_alloc ?_ _)); refine blk_put (cs := #[.int .i64 t270, .int .i64 t271, .int .i64 t272, .int .i64 t273, .int .i64 0]) ?_ 4 _ rfl; (with_reducible repeat (first | refine blk_drewN ?_ _ | refine blk_drew ?_ | refine blk_alloc ?_ _)); refine blk_put (cs := #[.int .i64 t270, .int .i64 t271, .int .i64 t272, .int .i64 0, .int .i64 0]) ?_ 3 _ rfl; (with_reducible repeat (first | refine blk_drewN ?_ _ | refine blk_drew ?_ | refine blk_alloc ?_ _)); refine blk_put (cs := #[.int .i64 t270, .int .i64 t271, .int .i64 0, .int .i64 0, .int .i64 0]) ?_ 2 _ rfl; (with_reducible repeat (first | refine blk_drewN ?_ _ | refine blk_drew ?_ | refine blk_alloc ?_ _)); refine blk_put (cs := #[.int .i64 t270, .int .i64 0, .int .i64 0, .int .i64 0, .int .i64 0]) ?_ 1 _ rfl; (with_reducible repeat (first | refine blk_drewN ?_ _ | refine blk_drew ?_ | refine blk_alloc ?_ _)); refine blk_put (cs := #[.int .i64 0, .int .i64 0, .int .i64 0, .int .i64 0, .int .i64 0]) ?_ 0 _ rfl; (with_reducible repeat (first | refine blk_drewN ?_ _ | refine blk_drew ?_ | refine blk_alloc ?_ _)); exact BK277.out) hb); have n3_ := Aside0.mk (below_step (by repeat (first | (with_reducible first | exact HB.out | apply below_alloc | apply pw_below_drewN | apply below_drew1 | refine below_set ?_ GE266.out | refine below_set ?_ GE267.out | refine below_set ?_ GE277.out) | exact HB.out)) hb); clear BK266; clear BK267; clear BK277; clear HB; have BK266 := n0_; have BK267 := n1_; have BK277 := n2_; have HB := n3_; clear n0_ n1_ n2_ n3_; (try clear hb); (try clear hb2); (try clear hk); (try clear hi)))
                                go_meet
                                case rel => exact ⟨_, H', ⟨by first | omega | exact Nat.le_refl _⟩, ⟨by (with_reducible repeat (first | refine blk_drewN ?_ _ | refine blk_drew ?_ | refine blk_alloc ?_ _)); exact BK266.out⟩, ⟨by (with_reducible repeat (first | refine blk_drewN ?_ _ | refine blk_drew ?_ | refine blk_alloc ?_ _)); exact BK267.out⟩, ⟨by repeat (first | (with_reducible first | exact HB.out | apply below_alloc | apply pw_below_drewN | apply below_drew1 | refine below_set ?_ GE266.out | refine below_set ?_ GE267.out | refine below_set ?_ GE277.out) | exact HB.out)⟩⟩
                              · rw [if_neg c34] at H
                                exact absurd H (by simp)
                            · rw [if_neg c32] at H
                              exact absurd H (by simp)
                          · rw [if_neg c30] at H
                            exact absurd H (by simp)
                        · rw [if_neg c28] at H
                          exact absurd H (by simp)
                      · rw [if_neg c27] at H
                        exact absurd H (by simp)
                    · rw [if_neg c25] at H
                      exact absurd H (by simp)
                · rw [if_neg c23] at H
                  exact absurd H (by simp)
              · rw [if_neg c22] at H
                exact absurd H (by simp)
            · rw [if_neg c20] at H
              have c20b0 : (t269 == 0) = false := beq_eq_false_iff_ne.mpr c20
              have c20b1 : (t269 != 0) = true := bne_iff_ne.mpr c20
              (first | rw [c20b0] | (simp only [i64_w, i32_w]; rw [c20b0]) | rw [c20b1] | skip)
              have H' := Aside0.mk H
              clear H
              go_wp2
              go_meet
              case rel => exact ⟨_, H', ⟨by first | omega | exact Nat.le_refl _⟩, ⟨by (with_reducible repeat (first | refine blk_drewN ?_ _ | refine blk_drew ?_ | refine blk_alloc ?_ _)); exact BK266.out⟩, ⟨by (with_reducible repeat (first | refine blk_drewN ?_ _ | refine blk_drew ?_ | refine blk_alloc ?_ _)); exact BK267.out⟩, ⟨by repeat (first | (with_reducible first | exact HB.out | apply below_alloc | apply pw_below_drewN | apply below_drew1 | refine below_set ?_ GE266.out | refine below_set ?_ GE267.out) | exact HB.out)⟩⟩
          case rest =>
            clear HC13
            try clear c1
            try clear c2
            try clear p2
            try clear c3
            try clear c4
            try clear c5
            try clear c5b0
            try clear c5b1
            try clear c6
            try clear c6b0
            try clear c6b1
            try clear p6
            try clear c9
            try clear c9b0
            try clear c9b1
            try clear c10
            try clear c10b0
            try clear c10b1
            try clear c12
            try clear c16
            try clear c20
            try clear c20b0
            try clear c20b1
            try clear c22
            try clear c22b0
            try clear c22b1
            try clear c23
            try clear c23b0
            try clear c23b1
            try clear c24
            try clear c24b0
            try clear c25
            try clear c25b0
            try clear c25b1
            try clear c27
            try clear c27b0
            try clear c27b1
            try clear c28
            try clear c28b0
            try clear c28b1
            try clear c30
            try clear c30b0
            try clear c30b1
            try clear c32
            try clear c32b0
            try clear c32b1
            try clear c32b2
            try clear c34
            try clear c34b0
            try clear c34b1
            try clear c37
            try clear c38
            try clear c40
            try clear hcz17_0
            try clear hcz17_1
            try clear hcz18_0
            try clear hcz18_1
            try clear hcz18_2
            try clear hcz18_3
            try clear hcz18_4
            try clear hcz39_0
            try clear hcz39_1
            try clear hcz39_2
            try clear hcz39_3
            try clear hcz39_4
            try clear hcz41_0
            try clear hcz41_1
            try clear hcz42_0
            try clear hcz42_1
            try clear hcz42_2
            try clear hcz42_3
            try clear hcz42_4
            try clear hfz17_0
            try clear hfz17_1
            try clear hfz18_0
            try clear hfz18_1
            try clear hfz18_2
            try clear hfz18_3
            try clear hfz18_4
            try clear hfz39_0
            try clear hfz39_1
            try clear hfz39_2
            try clear hfz39_3
            try clear hfz39_4
            try clear hfz41_0
            try clear hfz41_1
            try clear hfz42_0
            try clear hfz42_1
            try clear hfz42_2
            try clear hfz42_3
            try clear hfz42_4
            obtain ⟨kq, HA, HJ12, BK266, BK267, HB⟩ := hcut
            cases kq with
            | zero => exact absurd HA.out (by simp [withylaw07_HeadBack.j0])
            | succ kj12 =>
              have H := HA.out
              clear HA
              simp only [withylaw07_HeadBack.j0] at H
              replace H := Option.bind_eq_some_iff.mp H
              obtain ⟨⟨t279, t280, t281, t282, t283, t284, t285⟩, A440, H⟩ := H
              replace H : (if t285 = 0 then ((head_Seal.f kj12 t279 t280 t281 t282 t283 t284 (js11.size : Int)).bind fun bt287 => (if bt287.2 = 0 then (if bt287.1.toList = js11.toList then ((head_Right.f kj12 t279 t280 t281 t282 t283).bind fun t289 => (if t289 = true then ((withylaw07_fixed.f kj12).bind fun t290 => (some t290)) else (none))) else (none)) else (none))) else (if t285 = 3 then (if (t279 == 0 && (t280 == 0 && (t281 == 0 && (t282 == 0 && (t283 == 0))))) = true then (if t284.toList = ([] : List UInt8) then ((withylaw07_fixed.f kj12).bind fun t291 => (some t291)) else (none)) else (none)) else (none))) = some r := H
              have A44 := Aside0.mk A440
              clear A440
              by_cases c45 : t285 = 0
              · rw [if_pos c45] at H
                have c45b0 : (t285 == 0) = true := beq_iff_eq.mpr c45
                have c45b1 : (t285 != 0) = false := bne_eq_false_iff_eq.mpr c45
                clear c45
                replace H := Option.bind_eq_some_iff.mp H
                obtain ⟨⟨t287, t288⟩, A460, H⟩ := H
                replace H : (if t288 = 0 then (if t287.toList = js11.toList then ((head_Right.f kj12 t279 t280 t281 t282 t283).bind fun t289 => (if t289 = true then ((withylaw07_fixed.f kj12).bind fun t290 => (some t290)) else (none))) else (none)) else (none)) = some r := H
                have A46 := Aside0.mk A460
                clear A460
                by_cases c47 : t288 = 0
                · rw [if_pos c47] at H
                  have c47b0 : (t288 == 0) = true := beq_iff_eq.mpr c47
                  have c47b1 : (t288 != 0) = false := bne_eq_false_iff_eq.mpr c47
                  clear c47
                  by_cases c48 : t287.toList = js11.toList
                  · rw [if_pos c48] at H
                    have c48b0 : (t287.toList == js11.toList) = true := beq_iff_eq.mpr c48
                    have c48b1 : (t287.toList != js11.toList) = false := bne_eq_false_iff_eq.mpr c48
                    clear c48
                    replace H := Option.bind_eq_some_iff.mp H
                    obtain ⟨t289, A490, H⟩ := H
                    replace H : (if t289 = true then ((withylaw07_fixed.f kj12).bind fun t290 => (some t290)) else (none)) = some r := H
                    have A49 := Aside0.mk A490
                    clear A490
                    by_cases c50 : t289 = true
                    · subst c50
                      have H1 : ((withylaw07_fixed.f kj12).bind fun t290 => (some t290)) = some r := by rw [if_pos rfl] at H; exact H
                      clear H
                      have H := H1
                      clear H1
                      replace H := Option.bind_eq_some_iff.mp H
                      obtain ⟨t290, A510, H⟩ := H
                      replace H : (some t290) = some r := H
                      have A51 := Aside0.mk A510
                      clear A510
                      obtain rfl := Option.some.inj H
                      go_wp2_with (first | ((with_reducible refine gate_callee (f := 12) rfl ?_); refine goesL_ (some 94) rfl rfl Try.func12 (by kernel_rfl) rfl #[.string js11] rfl (by (try simp only [List.map_toArray, List.map_cons, List.map_nil]); first | done | rfl | (simp only [List.length_drop, List.length_take]; rfl)) ?_; (with_reducible refine (head_Open.calls kj12 js11 t279 t280 t281 t282 t283 t284 t285 _ A44.out).mono ?_); rintro e w52 ⟨rfl, hb⟩; refine ⟨_, rfl, ?_⟩; have n0_ := Aside0.mk (blk_below (g := gb266) (o := .cells #[.int .i64 a0_0, .int .i64 a0_1, .int .i64 a0_2, .int .i64 a0_3, .int .i64 a0_4] 23 (0, 0)) (by (with_reducible repeat (first | refine blk_drewN ?_ _ | refine blk_drew ?_ | refine blk_alloc ?_ _)); exact BK266.out) hb); have n1_ := Aside0.mk (blk_below (g := gb267) (o := .cells #[.string a1_0, .int .i64 a1_1] 25 (0, 0)) (by (with_reducible repeat (first | refine blk_drewN ?_ _ | refine blk_drew ?_ | refine blk_alloc ?_ _)); exact BK267.out) hb); have n2_ := Aside0.mk (below_step (by repeat (first | (with_reducible first | exact HB.out | apply below_alloc | apply pw_below_drewN | apply below_drew1 | refine below_set ?_ GE266.out | refine below_set ?_ GE267.out) | exact HB.out)) hb); clear BK266; clear BK267; clear HB; have BK266 := n0_; have BK267 := n1_; have HB := n2_; clear n0_ n1_ n2_; (try clear hb); (try clear hb2); (try clear hk); (try clear hi)) | ((with_reducible refine gate_dst (N := 13) rfl ?_); (try (refine gate_guard (by rfl) ?_; dsimp only)); refine box_event ?hg (N := 13) ?hd (cs := #[.int .i64 0, .int .i64 0, .int .i64 0, .int .i64 0, .int .i64 0]) (t := 23) ?hr ?_; (case hd => rfl); (case hg => rfl); (case hr => first | (go_simp; done) | (go_simp; rfl)); intro gb286 hg w53 hbox hb; have n0_ := Aside0.mk (blk_below (g := gb266) (o := .cells #[.int .i64 a0_0, .int .i64 a0_1, .int .i64 a0_2, .int .i64 a0_3, .int .i64 a0_4] 23 (0, 0)) (by (with_reducible repeat (first | refine blk_drewN ?_ _ | refine blk_drew ?_ | refine blk_alloc ?_ _)); exact BK266.out) hb); have n1_ := Aside0.mk (blk_below (g := gb267) (o := .cells #[.string a1_0, .int .i64 a1_1] 25 (0, 0)) (by (with_reducible repeat (first | refine blk_drewN ?_ _ | refine blk_drew ?_ | refine blk_alloc ?_ _)); exact BK267.out) hb); have n2_ := Aside0.mk (below_step (by repeat (first | (with_reducible first | exact HB.out | apply below_alloc | apply pw_below_drewN | apply below_drew1 | refine below_set ?_ GE266.out | refine below_set ?_ GE267.out) | exact HB.out)) hb); have n3_ := Aside0.mk (hbox); have n4_ := Aside0.mk ((by rw [hg]; exact (below_size (by repeat (first | (with_reducible first | exact HB.out | apply below_alloc | apply pw_below_drewN | apply below_drew1 | refine below_set ?_ GE266.out | refine below_set ?_ GE267.out) | exact HB.out))) : w.heap.size ≤ gb286)); have n5_ := Aside0.mk ((by rw [hg]; exact (below_size (by repeat (first | (with_reducible first | exact HB.out | apply below_alloc | apply pw_below_drewN | apply below_drew1 | refine below_set ?_ GE266.out | refine below_set ?_ GE267.out) | exact HB.out))) : w.heap.size ≤ gb286)); have n6_ := Aside0.mk ((by rw [hg]; exact Nat.ne_of_lt (blk_lt (g := gb266) (o := .cells #[.int .i64 a0_0, .int .i64 a0_1, .int .i64 a0_2, .int .i64 a0_3, .int .i64 a0_4] 23 (0, 0)) (by (with_reducible repeat (first | refine blk_drewN ?_ _ | refine blk_drew ?_ | refine blk_alloc ?_ _)); exact BK266.out)) : gb266 ≠ gb286)); have n7_ := Aside0.mk ((by rw [hg]; exact Nat.ne_of_gt (blk_lt (g := gb266) (o := .cells #[.int .i64 a0_0, .int .i64 a0_1, .int .i64 a0_2, .int .i64 a0_3, .int .i64 a0_4] 23 (0, 0)) (by (with_reducible repeat (first | refine blk_drewN ?_ _ | refine blk_drew ?_ | refine blk_alloc ?_ _)); exact BK266.out)) : gb286 ≠ gb266)); have n8_ := Aside0.mk ((by rw [hg]; exact Nat.ne_of_lt (blk_lt (g := gb267) (o := .cells #[.string a1_0, .int .i64 a1_1] 25 (0, 0)) (by (with_reducible repeat (first | refine blk_drewN ?_ _ | refine blk_drew ?_ | refine blk_alloc ?_ _)); exact BK267.out)) : gb267 ≠ gb286)); have n9_ := Aside0.mk ((by rw [hg]; exact Nat.ne_of_gt (blk_lt (g := gb267) (o := .cells #[.string a1_0, .int .i64 a1_1] 25 (0, 0)) (by (with_reducible repeat (first | refine blk_drewN ?_ _ | refine blk_drew ?_ | refine blk_alloc ?_ _)); exact BK267.out)) : gb286 ≠ gb267)); clear BK266; clear BK267; clear HB; have BK266 := n0_; have BK267 := n1_; have HB := n2_; have BK286 := n3_; have GW286 := n4_; have GE286 := n5_; have NB266_286 := n6_; have NB286_266 := n7_; have NB267_286 := n8_; have NB286_267 := n9_; clear n0_ n1_ n2_ n3_ n4_ n5_ n6_ n7_ n8_ n9_; clear hb hbox hg; have hnb54 := NB286_266.out; have hnc54 := NB266_286.out; have hnb55 := NB286_267.out; have hnc55 := NB267_286.out; have hcz56_0 : w53.cell? ⟨gb286, 0, none⟩ = some (.int .i64 0) := (blk_cell BK286.out 0).trans rfl; have hcz56_1 : w53.cell? ⟨gb286, 1, none⟩ = some (.int .i64 0) := (blk_cell BK286.out 1).trans rfl; have hcz56_2 : w53.cell? ⟨gb286, 2, none⟩ = some (.int .i64 0) := (blk_cell BK286.out 2).trans rfl; have hcz56_3 : w53.cell? ⟨gb286, 3, none⟩ = some (.int .i64 0) := (blk_cell BK286.out 3).trans rfl; have hcz56_4 : w53.cell? ⟨gb286, 4, none⟩ = some (.int .i64 0) := (blk_cell BK286.out 4).trans rfl; have hfz56_0 := blk_frozen BK286.out 0; have hfz56_1 := blk_frozen BK286.out 1; have hfz56_2 := blk_frozen BK286.out 2; have hfz56_3 := blk_frozen BK286.out 3; have hfz56_4 := blk_frozen BK286.out 4) | ((with_reducible refine gate_callee (f := 9) rfl ?_); refine goesL_ (some 119) rfl rfl Try.func9 (by kernel_rfl) rfl #[.agg #[.int .i64 t279, .int .i64 t280, .int .i64 t281, .int .i64 t282, .int .i64 t283], .string t284, .int .i64 (js11.size : Int)] rfl (by (try simp only [List.map_toArray, List.map_cons, List.map_nil]); first | done | rfl | (simp only [List.length_drop, List.length_take]; rfl)) ?_; (with_reducible refine (head_Seal.calls kj12 t279 t280 t281 t282 t283 t284 (js11.size : Int) t287 t288 _ A46.out).mono ?_); rintro e w57 ⟨rfl, hb⟩; refine ⟨_, rfl, ?_⟩; have n0_ := Aside0.mk (blk_below (g := gb266) (o := .cells #[.int .i64 a0_0, .int .i64 a0_1, .int .i64 a0_2, .int .i64 a0_3, .int .i64 a0_4] 23 (0, 0)) (by (with_reducible repeat (first | refine blk_drewN ?_ _ | refine blk_drew ?_ | refine blk_alloc ?_ _)); refine blk_far ?_ NB266_286.out _; (with_reducible repeat (first | refine blk_drewN ?_ _ | refine blk_drew ?_ | refine blk_alloc ?_ _)); refine blk_far ?_ NB266_286.out _; (with_reducible repeat (first | refine blk_drewN ?_ _ | refine blk_drew ?_ | refine blk_alloc ?_ _)); refine blk_far ?_ NB266_286.out _; (with_reducible repeat (first | refine blk_drewN ?_ _ | refine blk_drew ?_ | refine blk_alloc ?_ _)); refine blk_far ?_ NB266_286.out _; (with_reducible repeat (first | refine blk_drewN ?_ _ | refine blk_drew ?_ | refine blk_alloc ?_ _)); refine blk_far ?_ NB266_286.out _; (with_reducible repeat (first | refine blk_drewN ?_ _ | refine blk_drew ?_ | refine blk_alloc ?_ _)); exact BK266.out) hb); have n1_ := Aside0.mk (blk_below (g := gb267) (o := .cells #[.string a1_0, .int .i64 a1_1] 25 (0, 0)) (by (with_reducible repeat (first | refine blk_drewN ?_ _ | refine blk_drew ?_ | refine blk_alloc ?_ _)); refine blk_far ?_ NB267_286.out _; (with_reducible repeat (first | refine blk_drewN ?_ _ | refine blk_drew ?_ | refine blk_alloc ?_ _)); refine blk_far ?_ NB267_286.out _; (with_reducible repeat (first | refine blk_drewN ?_ _ | refine blk_drew ?_ | refine blk_alloc ?_ _)); refine blk_far ?_ NB267_286.out _; (with_reducible repeat (first | refine blk_drewN ?_ _ | refine blk_drew ?_ | refine blk_alloc ?_ _)); refine blk_far ?_ NB267_286.out _; (with_reducible repeat (first | refine blk_drewN ?_ _ | refine blk_drew ?_ | refine blk_alloc ?_ _)); refine blk_far ?_ NB267_286.out _; (with_reducible repeat (first | refine blk_drewN ?_ _ | refine blk_drew ?_ | refine blk_alloc ?_ _)); exact BK267.out) hb); have n2_ := Aside0.mk (blk_below (g := gb286) (o := .cells #[.int .i64 t279, .int .i64 t280, .int .i64 t281, .int .i64 t282, .int .i64 t283] 23 (0, 0)) (by (with_reducible repeat (first | refine blk_drewN ?_ _ | refine blk_drew ?_ | refine blk_alloc ?_ _)); refine blk_put (cs := #[.int .i64 t279, .int .i64 t280, .int .i64 t281, .int .i64 t282, .int .i64 0]) ?_ 4 _ rfl; (with_reducible repeat (first | refine blk_drewN ?_ _ | refine blk_drew ?_ | refine blk_alloc ?_ _)); refine blk_put (cs := #[.int .i64 t279, .int .i64 t280, .int .i64 t281, .int .i64 0, .int .i64 0]) ?_ 3 _ rfl; (with_reducible repeat (first | refine blk_drewN ?_ _ | refine blk_drew ?_ | refine blk_alloc ?_ _)); refine blk_put (cs := #[.int .i64 t279, .int .i64 t280, .int .i64 0, .int .i64 0, .int .i64 0]) ?_ 2 _ rfl; (with_reducible repeat (first | refine blk_drewN ?_ _ | refine blk_drew ?_ | refine blk_alloc ?_ _)); refine blk_put (cs := #[.int .i64 t279, .int .i64 0, .int .i64 0, .int .i64 0, .int .i64 0]) ?_ 1 _ rfl; (with_reducible repeat (first | refine blk_drewN ?_ _ | refine blk_drew ?_ | refine blk_alloc ?_ _)); refine blk_put (cs := #[.int .i64 0, .int .i64 0, .int .i64 0, .int .i64 0, .int .i64 0]) ?_ 0 _ rfl; (with_reducible repeat (first | refine blk_drewN ?_ _ | refine blk_drew ?_ | refine blk_alloc ?_ _)); exact BK286.out) hb); have n3_ := Aside0.mk (below_step (by repeat (first | (with_reducible first | exact HB.out | apply below_alloc | apply pw_below_drewN | apply below_drew1 | refine below_set ?_ GE266.out | refine below_set ?_ GE267.out | refine below_set ?_ GE286.out) | exact HB.out)) hb); clear BK266; clear BK267; clear BK286; clear HB; have BK266 := n0_; have BK267 := n1_; have BK286 := n2_; have HB := n3_; clear n0_ n1_ n2_ n3_; (try clear hb); (try clear hb2); (try clear hk); (try clear hi); have hcz58_0 : w57.cell? ⟨gb286, 0, none⟩ = some (.int .i64 t279) := (blk_cell BK286.out 0).trans rfl; have hcz58_1 : w57.cell? ⟨gb286, 1, none⟩ = some (.int .i64 t280) := (blk_cell BK286.out 1).trans rfl; have hcz58_2 : w57.cell? ⟨gb286, 2, none⟩ = some (.int .i64 t281) := (blk_cell BK286.out 2).trans rfl; have hcz58_3 : w57.cell? ⟨gb286, 3, none⟩ = some (.int .i64 t282) := (blk_cell BK286.out 3).trans rfl; have hcz58_4 : w57.cell? ⟨gb286, 4, none⟩ = some (.int .i64 t283) := (blk_cell BK286.out 4).trans rfl; have hfz58_0 := blk_frozen BK286.out 0; have hfz58_1 := blk_frozen BK286.out 1; have hfz58_2 := blk_frozen BK286.out 2; have hfz58_3 := blk_frozen BK286.out 3; have hfz58_4 := blk_frozen BK286.out 4) | (go_at_call 14; (with_reducible refine (head_Right.calls kj12 t279 t280 t281 t282 t283 true _ A49.out).mono ?_); rintro e w59 ⟨rfl, hb⟩; have n0_ := Aside0.mk (blk_below (g := gb266) (o := .cells #[.int .i64 a0_0, .int .i64 a0_1, .int .i64 a0_2, .int .i64 a0_3, .int .i64 a0_4] 23 (0, 0)) (by (with_reducible repeat (first | refine blk_drewN ?_ _ | refine blk_drew ?_ | refine blk_alloc ?_ _)); exact BK266.out) hb); have n1_ := Aside0.mk (blk_below (g := gb267) (o := .cells #[.string a1_0, .int .i64 a1_1] 25 (0, 0)) (by (with_reducible repeat (first | refine blk_drewN ?_ _ | refine blk_drew ?_ | refine blk_alloc ?_ _)); exact BK267.out) hb); have n2_ := Aside0.mk (blk_below (g := gb286) (o := .cells #[.int .i64 t279, .int .i64 t280, .int .i64 t281, .int .i64 t282, .int .i64 t283] 23 (0, 0)) (by (with_reducible repeat (first | refine blk_drewN ?_ _ | refine blk_drew ?_ | refine blk_alloc ?_ _)); exact BK286.out) hb); have n3_ := Aside0.mk (below_step (by repeat (first | (with_reducible first | exact HB.out | apply below_alloc | apply pw_below_drewN | apply below_drew1 | refine below_set ?_ GE266.out | refine below_set ?_ GE267.out | refine below_set ?_ GE286.out) | exact HB.out)) hb); clear BK266; clear BK267; clear BK286; clear HB; have BK266 := n0_; have BK267 := n1_; have BK286 := n2_; have HB := n3_; clear n0_ n1_ n2_ n3_; (try clear hb); (try clear hb2); (try clear hk); (try clear hi)) | (go_at_call 16; (with_reducible refine (withylaw07_fixed.calls kj12  t290 _ A51.out).mono ?_); rintro e w60 ⟨rfl, hb⟩; have n0_ := Aside0.mk (blk_below (g := gb266) (o := .cells #[.int .i64 a0_0, .int .i64 a0_1, .int .i64 a0_2, .int .i64 a0_3, .int .i64 a0_4] 23 (0, 0)) (by (with_reducible repeat (first | refine blk_drewN ?_ _ | refine blk_drew ?_ | refine blk_alloc ?_ _)); exact BK266.out) hb); have n1_ := Aside0.mk (blk_below (g := gb267) (o := .cells #[.string a1_0, .int .i64 a1_1] 25 (0, 0)) (by (with_reducible repeat (first | refine blk_drewN ?_ _ | refine blk_drew ?_ | refine blk_alloc ?_ _)); exact BK267.out) hb); have n2_ := Aside0.mk (blk_below (g := gb286) (o := .cells #[.int .i64 t279, .int .i64 t280, .int .i64 t281, .int .i64 t282, .int .i64 t283] 23 (0, 0)) (by (with_reducible repeat (first | refine blk_drewN ?_ _ | refine blk_drew ?_ | refine blk_alloc ?_ _)); exact BK286.out) hb); have n3_ := Aside0.mk (below_step (by repeat (first | (with_reducible first | exact HB.out | apply below_alloc | apply pw_below_drewN | apply below_drew1 | refine below_set ?_ GE266.out | refine below_set ?_ GE267.out | refine below_set ?_ GE286.out) | exact HB.out)) hb); clear BK266; clear BK267; clear BK286; clear HB; have BK266 := n0_; have BK267 := n1_; have BK286 := n2_; have HB := n3_; clear n0_ n1_ n2_ n3_; (try clear hb); (try clear hb2); (try clear hk); (try clear hi)))
                      go_ret
                      exact ⟨by first | rfl | (simp [errW_none, errW_some] <;> rfl) | (simp only [← hji4, ← hjs7, ← hji8, ← hjs11]; first | rfl | (simp [errW_none, errW_some] <;> rfl)) | (simp [*, errW_none, errW_some] <;> rfl), by repeat (first | (with_reducible first | exact HB.out | apply below_alloc | apply pw_below_drewN | apply below_drew1 | refine below_set ?_ GE266.out | refine below_set ?_ GE267.out | refine below_set ?_ GE286.out) | exact HB.out)⟩
                    · replace c50 := Bool.eq_false_iff.mpr c50
                      subst c50
                      have H1 : (none) = some r := by rw [if_neg (show ¬ (false = true) by decide)] at H; exact H
                      clear H
                      have H := H1
                      clear H1
                      exact absurd H (by simp)
                  · rw [if_neg c48] at H
                    exact absurd H (by simp)
                · rw [if_neg c47] at H
                  exact absurd H (by simp)
              · rw [if_neg c45] at H
                have c45b0 : (t285 == 0) = false := beq_eq_false_iff_ne.mpr c45
                have c45b1 : (t285 != 0) = true := bne_iff_ne.mpr c45
                by_cases c61 : t285 = 3
                · rw [if_pos c61] at H
                  have c61b0 : (t285 == 3) = true := beq_iff_eq.mpr c61
                  have c61b1 : (t285 != 3) = false := bne_eq_false_iff_eq.mpr c61
                  clear c61
                  by_cases c62 : (t279 == 0 && (t280 == 0 && (t281 == 0 && (t282 == 0 && (t283 == 0))))) = true
                  · rw [if_pos c62] at H
                    have c62b0 : (t279 == 0 && (t280 == 0 && (t281 == 0 && (t282 == 0 && (t283 == 0))))) = true := c62
                    (try (have c62b1 : t279 = 0 && (t280 == 0 && (t281 == 0 && (t282 == 0 && (t283 == 0)))) := by simpa using c62))
                    (try (have c62b2 : decide (t279 = 0 && (t280 == 0 && (t281 == 0 && (t282 == 0 && (t283 == 0))))) = true := by simpa using c62))
                    (try (have c62b3 : (t279 == 0 && (t280 == 0 && (t281 == 0 && (t282 == 0 && (t283 == 0))))) = true := by simpa using c62))
                    clear c62
                    by_cases c63 : t284.toList = ([] : List UInt8)
                    · rw [if_pos c63] at H
                      have c63b0 : (t284.toList == ([] : List UInt8)) = true := beq_iff_eq.mpr c63
                      have c63b1 : (t284.toList != ([] : List UInt8)) = false := bne_eq_false_iff_eq.mpr c63
                      clear c63
                      replace H := Option.bind_eq_some_iff.mp H
                      obtain ⟨t291, A640, H⟩ := H
                      replace H : (some t291) = some r := H
                      have A64 := Aside0.mk A640
                      clear A640
                      obtain rfl := Option.some.inj H
                      go_wp2_with (first | ((with_reducible refine gate_callee (f := 12) rfl ?_); refine goesL_ (some 94) rfl rfl Try.func12 (by kernel_rfl) rfl #[.string js11] rfl (by (try simp only [List.map_toArray, List.map_cons, List.map_nil]); first | done | rfl | (simp only [List.length_drop, List.length_take]; rfl)) ?_; (with_reducible refine (head_Open.calls kj12 js11 t279 t280 t281 t282 t283 t284 t285 _ A44.out).mono ?_); rintro e w65 ⟨rfl, hb⟩; refine ⟨_, rfl, ?_⟩; have n0_ := Aside0.mk (blk_below (g := gb266) (o := .cells #[.int .i64 a0_0, .int .i64 a0_1, .int .i64 a0_2, .int .i64 a0_3, .int .i64 a0_4] 23 (0, 0)) (by (with_reducible repeat (first | refine blk_drewN ?_ _ | refine blk_drew ?_ | refine blk_alloc ?_ _)); exact BK266.out) hb); have n1_ := Aside0.mk (blk_below (g := gb267) (o := .cells #[.string a1_0, .int .i64 a1_1] 25 (0, 0)) (by (with_reducible repeat (first | refine blk_drewN ?_ _ | refine blk_drew ?_ | refine blk_alloc ?_ _)); exact BK267.out) hb); have n2_ := Aside0.mk (below_step (by repeat (first | (with_reducible first | exact HB.out | apply below_alloc | apply pw_below_drewN | apply below_drew1 | refine below_set ?_ GE266.out | refine below_set ?_ GE267.out) | exact HB.out)) hb); clear BK266; clear BK267; clear HB; have BK266 := n0_; have BK267 := n1_; have HB := n2_; clear n0_ n1_ n2_; (try clear hb); (try clear hb2); (try clear hk); (try clear hi)) | ((with_reducible refine gate_dst (N := 13) rfl ?_); (try (refine gate_guard (by rfl) ?_; dsimp only)); refine box_event ?hg (N := 13) ?hd (cs := #[.int .i64 0, .int .i64 0, .int .i64 0, .int .i64 0, .int .i64 0]) (t := 23) ?hr ?_; (case hd => rfl); (case hg => rfl); (case hr => first | (go_simp; done) | (go_simp; rfl)); intro gb286 hg w66 hbox hb; have n0_ := Aside0.mk (blk_below (g := gb266) (o := .cells #[.int .i64 a0_0, .int .i64 a0_1, .int .i64 a0_2, .int .i64 a0_3, .int .i64 a0_4] 23 (0, 0)) (by (with_reducible repeat (first | refine blk_drewN ?_ _ | refine blk_drew ?_ | refine blk_alloc ?_ _)); exact BK266.out) hb); have n1_ := Aside0.mk (blk_below (g := gb267) (o := .cells #[.string a1_0, .int .i64 a1_1] 25 (0, 0)) (by (with_reducible repeat (first | refine blk_drewN ?_ _ | refine blk_drew ?_ | refine blk_alloc ?_ _)); exact BK267.out) hb); have n2_ := Aside0.mk (below_step (by repeat (first | (with_reducible first | exact HB.out | apply below_alloc | apply pw_below_drewN | apply below_drew1 | refine below_set ?_ GE266.out | refine below_set ?_ GE267.out) | exact HB.out)) hb); have n3_ := Aside0.mk (hbox); have n4_ := Aside0.mk ((by rw [hg]; exact (below_size (by repeat (first | (with_reducible first | exact HB.out | apply below_alloc | apply pw_below_drewN | apply below_drew1 | refine below_set ?_ GE266.out | refine below_set ?_ GE267.out) | exact HB.out))) : w.heap.size ≤ gb286)); have n5_ := Aside0.mk ((by rw [hg]; exact (below_size (by repeat (first | (with_reducible first | exact HB.out | apply below_alloc | apply pw_below_drewN | apply below_drew1 | refine below_set ?_ GE266.out | refine below_set ?_ GE267.out) | exact HB.out))) : w.heap.size ≤ gb286)); have n6_ := Aside0.mk ((by rw [hg]; exact Nat.ne_of_lt (blk_lt (g := gb266) (o := .cells #[.int .i64 a0_0, .int .i64 a0_1, .int .i64 a0_2, .int .i64 a0_3, .int .i64 a0_4] 23 (0, 0)) (by (with_reducible repeat (first | refine blk_drewN ?_ _ | refine blk_drew ?_ | refine blk_alloc ?_ _)); exact BK266.out)) : gb266 ≠ gb286)); have n7_ := Aside0.mk ((by rw [hg]; exact Nat.ne_of_gt (blk_lt (g := gb266) (o := .cells #[.int .i64 a0_0, .int .i64 a0_1, .int .i64 a0_2, .int .i64 a0_3, .int .i64 a0_4] 23 (0, 0)) (by (with_reducible repeat (first | refine blk_drewN ?_ _ | refine blk_drew ?_ | refine blk_alloc ?_ _)); exact BK266.out)) : gb286 ≠ gb266)); have n8_ := Aside0.mk ((by rw [hg]; exact Nat.ne_of_lt (blk_lt (g := gb267) (o := .cells #[.string a1_0, .int .i64 a1_1] 25 (0, 0)) (by (with_reducible repeat (first | refine blk_drewN ?_ _ | refine blk_drew ?_ | refine blk_alloc ?_ _)); exact BK267.out)) : gb267 ≠ gb286)); have n9_ := Aside0.mk ((by rw [hg]; exact Nat.ne_of_gt (blk_lt (g := gb267) (o := .cells #[.string a1_0, .int .i64 a1_1] 25 (0, 0)) (by (with_reducible repeat (first | refine blk_drewN ?_ _ | refine blk_drew ?_ | refine blk_alloc ?_ _)); exact BK267.out)) : gb286 ≠ gb267)); clear BK266; clear BK267; clear HB; have BK266 := n0_; have BK267 := n1_; have HB := n2_; have BK286 := n3_; have GW286 := n4_; have GE286 := n5_; have NB266_286 := n6_; have NB286_266 := n7_; have NB267_286 := n8_; have NB286_267 := n9_; clear n0_ n1_ n2_ n3_ n4_ n5_ n6_ n7_ n8_ n9_; clear hb hbox hg; have hnb67 := NB286_266.out; have hnc67 := NB266_286.out; have hnb68 := NB286_267.out; have hnc68 := NB267_286.out; have hcz69_0 : w66.cell? ⟨gb286, 0, none⟩ = some (.int .i64 0) := (blk_cell BK286.out 0).trans rfl; have hcz69_1 : w66.cell? ⟨gb286, 1, none⟩ = some (.int .i64 0) := (blk_cell BK286.out 1).trans rfl; have hcz69_2 : w66.cell? ⟨gb286, 2, none⟩ = some (.int .i64 0) := (blk_cell BK286.out 2).trans rfl; have hcz69_3 : w66.cell? ⟨gb286, 3, none⟩ = some (.int .i64 0) := (blk_cell BK286.out 3).trans rfl; have hcz69_4 : w66.cell? ⟨gb286, 4, none⟩ = some (.int .i64 0) := (blk_cell BK286.out 4).trans rfl; have hfz69_0 := blk_frozen BK286.out 0; have hfz69_1 := blk_frozen BK286.out 1; have hfz69_2 := blk_frozen BK286.out 2; have hfz69_3 := blk_frozen BK286.out 3; have hfz69_4 := blk_frozen BK286.out 4) | (go_at_call 16; (with_reducible refine (withylaw07_fixed.calls kj12  t291 _ A64.out).mono ?_); rintro e w70 ⟨rfl, hb⟩; have n0_ := Aside0.mk (blk_below (g := gb266) (o := .cells #[.int .i64 a0_0, .int .i64 a0_1, .int .i64 a0_2, .int .i64 a0_3, .int .i64 a0_4] 23 (0, 0)) (by (with_reducible repeat (first | refine blk_drewN ?_ _ | refine blk_drew ?_ | refine blk_alloc ?_ _)); refine blk_far ?_ NB266_286.out _; (with_reducible repeat (first | refine blk_drewN ?_ _ | refine blk_drew ?_ | refine blk_alloc ?_ _)); refine blk_far ?_ NB266_286.out _; (with_reducible repeat (first | refine blk_drewN ?_ _ | refine blk_drew ?_ | refine blk_alloc ?_ _)); refine blk_far ?_ NB266_286.out _; (with_reducible repeat (first | refine blk_drewN ?_ _ | refine blk_drew ?_ | refine blk_alloc ?_ _)); refine blk_far ?_ NB266_286.out _; (with_reducible repeat (first | refine blk_drewN ?_ _ | refine blk_drew ?_ | refine blk_alloc ?_ _)); refine blk_far ?_ NB266_286.out _; (with_reducible repeat (first | refine blk_drewN ?_ _ | refine blk_drew ?_ | refine blk_alloc ?_ _)); exact BK266.out) hb); have n1_ := Aside0.mk (blk_below (g := gb267) (o := .cells #[.string a1_0, .int .i64 a1_1] 25 (0, 0)) (by (with_reducible repeat (first | refine blk_drewN ?_ _ | refine blk_drew ?_ | refine blk_alloc ?_ _)); refine blk_far ?_ NB267_286.out _; (with_reducible repeat (first | refine blk_drewN ?_ _ | refine blk_drew ?_ | refine blk_alloc ?_ _)); refine blk_far ?_ NB267_286.out _; (with_reducible repeat (first | refine blk_drewN ?_ _ | refine blk_drew ?_ | refine blk_alloc ?_ _)); refine blk_far ?_ NB267_286.out _; (with_reducible repeat (first | refine blk_drewN ?_ _ | refine blk_drew ?_ | refine blk_alloc ?_ _)); refine blk_far ?_ NB267_286.out _; (with_reducible repeat (first | refine blk_drewN ?_ _ | refine blk_drew ?_ | refine blk_alloc ?_ _)); refine blk_far ?_ NB267_286.out _; (with_reducible repeat (first | refine blk_drewN ?_ _ | refine blk_drew ?_ | refine blk_alloc ?_ _)); exact BK267.out) hb); have n2_ := Aside0.mk (blk_below (g := gb286) (o := .cells #[.int .i64 t279, .int .i64 t280, .int .i64 t281, .int .i64 t282, .int .i64 t283] 23 (0, 0)) (by (with_reducible repeat (first | refine blk_drewN ?_ _ | refine blk_drew ?_ | refine blk_alloc ?_ _)); refine blk_put (cs := #[.int .i64 t279, .int .i64 t280, .int .i64 t281, .int .i64 t282, .int .i64 0]) ?_ 4 _ rfl; (with_reducible repeat (first | refine blk_drewN ?_ _ | refine blk_drew ?_ | refine blk_alloc ?_ _)); refine blk_put (cs := #[.int .i64 t279, .int .i64 t280, .int .i64 t281, .int .i64 0, .int .i64 0]) ?_ 3 _ rfl; (with_reducible repeat (first | refine blk_drewN ?_ _ | refine blk_drew ?_ | refine blk_alloc ?_ _)); refine blk_put (cs := #[.int .i64 t279, .int .i64 t280, .int .i64 0, .int .i64 0, .int .i64 0]) ?_ 2 _ rfl; (with_reducible repeat (first | refine blk_drewN ?_ _ | refine blk_drew ?_ | refine blk_alloc ?_ _)); refine blk_put (cs := #[.int .i64 t279, .int .i64 0, .int .i64 0, .int .i64 0, .int .i64 0]) ?_ 1 _ rfl; (with_reducible repeat (first | refine blk_drewN ?_ _ | refine blk_drew ?_ | refine blk_alloc ?_ _)); refine blk_put (cs := #[.int .i64 0, .int .i64 0, .int .i64 0, .int .i64 0, .int .i64 0]) ?_ 0 _ rfl; (with_reducible repeat (first | refine blk_drewN ?_ _ | refine blk_drew ?_ | refine blk_alloc ?_ _)); exact BK286.out) hb); have n3_ := Aside0.mk (below_step (by repeat (first | (with_reducible first | exact HB.out | apply below_alloc | apply pw_below_drewN | apply below_drew1 | refine below_set ?_ GE266.out | refine below_set ?_ GE267.out | refine below_set ?_ GE286.out) | exact HB.out)) hb); clear BK266; clear BK267; clear BK286; clear HB; have BK266 := n0_; have BK267 := n1_; have BK286 := n2_; have HB := n3_; clear n0_ n1_ n2_ n3_; (try clear hb); (try clear hb2); (try clear hk); (try clear hi)))
                      go_ret
                      exact ⟨by first | rfl | (simp [errW_none, errW_some] <;> rfl) | (simp only [← hji4, ← hjs7, ← hji8, ← hjs11]; first | rfl | (simp [errW_none, errW_some] <;> rfl)) | (simp [*, errW_none, errW_some] <;> rfl), by repeat (first | (with_reducible first | exact HB.out | apply below_alloc | apply pw_below_drewN | apply below_drew1 | refine below_set ?_ GE266.out | refine below_set ?_ GE267.out | refine below_set ?_ GE286.out) | exact HB.out)⟩
                    · rw [if_neg c63] at H
                      exact absurd H (by simp)
                  · rw [if_neg c62] at H
                    exact absurd H (by simp)
                · rw [if_neg c61] at H
                  exact absurd H (by simp)
        · rw [if_neg c10] at H
          exact absurd H (by simp)
      · rw [if_neg c9] at H
        exact absurd H (by simp)
    · rw [if_neg c6] at H
      exact absurd H (by simp)
  · rw [if_neg c5] at H
    exact absurd H (by simp)

-- NOT PRINTED: function 5 (withylaw07_HeadBurst)

end Go.Proofs.Ytnfnmjjdcaphjaa.P
