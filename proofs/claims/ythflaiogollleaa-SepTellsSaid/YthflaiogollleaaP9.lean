/- What is proved here: for functions of the Go text, a Lean function each, and that the call comes to just what it answers. Conditions: as each contract names them. Written by wip/tools/myprint.py, a driver of the print of the kit. -/
import Derived.Test.YthflaiogollleaaP0
import Derived.Test.YthflaiogollleaaP1
import Derived.Test.YthflaiogollleaaP2
import Derived.Test.YthflaiogollleaaP5
import Derived.Test.YthflaiogollleaaP6
namespace Go.Proofs.Ythflaiogollleaa.P
open Go.RowKit Go.Proofs.YthflaiogollleaaW.PrintWords Go.Proofs.YthflaiogollleaaW.PrintLast Go.Proofs.YthflaiogollleaaW.PrintMore
attribute [local go_sem] max2_int min2_int max_two min_two max_three min_three max_four min_four Go.Proofs.YthflaiogollleaaLaws.str_leq Go.Proofs.YthflaiogollleaaLaws.str_gtr Go.Proofs.YthflaiogollleaaLaws.str_geq Go.Proofs.YthflaiogollleaaLaws.max2_str Go.Proofs.YthflaiogollleaaLaws.min2_str   -- for this text's walks alone
set_option linter.unusedVariables false
set_option linter.unusedSimpArgs false

/-! ### withylaw05_SepBetween: function 5 -/
def withylaw05_SepBetween.f (k : Nat) (a0 : ByteArray) (a1 : ByteArray) (a2 : ByteArray) : Option (Bool) := if 0 ≤ (mn (a0.size : Int) 60) then (if (mn (a0.size : Int) 60) ≤ (a0.size : Int) then (if 0 ≤ (mn (a1.size : Int) 60) then (if (mn (a1.size : Int) 60) ≤ (a1.size : Int) then (if 0 ≤ (mn (a2.size : Int) 60) then (if (mn (a2.size : Int) 60) ≤ (a2.size : Int) then ((sep_Between.f (a2.extract 0 ((mn (a2.size : Int) 60) : Int).toNat) (a0.extract 0 ((mn (a0.size : Int) 60) : Int).toNat) (a1.extract 0 ((mn (a1.size : Int) 60) : Int).toNat) true).bind fun t211 => (if t211 = true then ((sep_Common.f k (a0.extract 0 ((mn (a0.size : Int) 60) : Int).toNat) (a1.extract 0 ((mn (a1.size : Int) 60) : Int).toNat)).bind fun t214 => (if ((Op.bytesLess ((a2.extract 0 ((mn (a2.size : Int) 60) : Int).toNat).toList) ((a0.extract 0 ((mn (a0.size : Int) 60) : Int).toNat).toList)) = true) then (none) else (if (Op.bytesLess ((a2.extract 0 ((mn (a2.size : Int) 60) : Int).toNat).toList) ((a1.extract 0 ((mn (a1.size : Int) 60) : Int).toNat).toList)) = true then ((sep_Common.f k (a2.extract 0 ((mn (a2.size : Int) 60) : Int).toNat) (a0.extract 0 ((mn (a0.size : Int) 60) : Int).toNat)).bind fun t215 => (if t215 ≥ t214 then ((sep_Common.f k (a2.extract 0 ((mn (a2.size : Int) 60) : Int).toNat) (a1.extract 0 ((mn (a1.size : Int) 60) : Int).toNat)).bind fun t216 => (if t216 ≥ t214 then ((sep_Span.f k (([a0.extract 0 ((mn (a0.size : Int) 60) : Int).toNat, a2.extract 0 ((mn (a2.size : Int) 60) : Int).toNat, a1.extract 0 ((mn (a1.size : Int) 60) : Int).toNat] : List ByteArray))).bind fun t220 => (if t220 = t214 then ((withylaw05_fixed.f k).bind fun t221 => (some t221)) else (none))) else (none))) else (none))) else (none)))) else (if ((Op.bytesLess ((a2.extract 0 ((mn (a2.size : Int) 60) : Int).toNat).toList) ((a0.extract 0 ((mn (a0.size : Int) 60) : Int).toNat).toList)) = true) then ((withylaw05_fixed.f k).bind fun t212 => (some t212)) else (if ((Op.bytesLess ((a2.extract 0 ((mn (a2.size : Int) 60) : Int).toNat).toList) ((a1.extract 0 ((mn (a1.size : Int) 60) : Int).toNat).toList)) = true) then (none) else ((withylaw05_fixed.f k).bind fun t213 => (some t213)))))) else (none)) else (none)) else (none)) else (none)) else (none)) else (none)
theorem withylaw05_SepBetween.mono : ∀ a0 a1 a2 k, LeO (withylaw05_SepBetween.f k a0 a1 a2) (withylaw05_SepBetween.f (k + 1) a0 a1 a2) := by
  intro a0 a1 a2 k
  unfold withylaw05_SepBetween.f
  repeat' first
      | (with_reducible exact sep_Common.mono _ _ _)
      | (with_reducible exact sep_Span.mono _ _)
      | (with_reducible exact withylaw05_fixed.mono _)
      | (with_reducible exact LeO.refl _)
      | (with_reducible exact LeO.none _)
      | (with_reducible refine LeO.ite ?_ ?_)
      | (with_reducible refine LeO.bind ?_ (fun _ => ?_))
      | exact sep_Common.mono _ _ _
      | exact sep_Span.mono _ _
      | exact withylaw05_fixed.mono _
      | exact LeO.none _
      | refine LeO.ite ?_ ?_
      | refine LeO.bind ?_ (fun _ => ?_)
set_option maxHeartbeats 8000000 in
set_option maxRecDepth 100000 in
theorem withylaw05_SepBetween.calls (k : Nat) (a0 : ByteArray) (a1 : ByteArray) (a2 : ByteArray) (r : Bool) (w : World) (h : withylaw05_SepBetween.f k a0 a1 a2 = some r) :
    Calls Try.prog 5 #[.string a0, .string a1, .string a2] w fun e w' => e = .returned (.bool r) ∧ Below w.heap.size w w' := by
  have HB := Aside0.mk (Below.refl w.heap.size w)
  have H : (if 0 ≤ (mn (a0.size : Int) 60) then (if (mn (a0.size : Int) 60) ≤ (a0.size : Int) then (if 0 ≤ (mn (a1.size : Int) 60) then (if (mn (a1.size : Int) 60) ≤ (a1.size : Int) then (if 0 ≤ (mn (a2.size : Int) 60) then (if (mn (a2.size : Int) 60) ≤ (a2.size : Int) then ((sep_Between.f (a2.extract 0 ((mn (a2.size : Int) 60) : Int).toNat) (a0.extract 0 ((mn (a0.size : Int) 60) : Int).toNat) (a1.extract 0 ((mn (a1.size : Int) 60) : Int).toNat) true).bind fun t211 => (if t211 = true then ((sep_Common.f k (a0.extract 0 ((mn (a0.size : Int) 60) : Int).toNat) (a1.extract 0 ((mn (a1.size : Int) 60) : Int).toNat)).bind fun t214 => (if ((Op.bytesLess ((a2.extract 0 ((mn (a2.size : Int) 60) : Int).toNat).toList) ((a0.extract 0 ((mn (a0.size : Int) 60) : Int).toNat).toList)) = true) then (none) else (if (Op.bytesLess ((a2.extract 0 ((mn (a2.size : Int) 60) : Int).toNat).toList) ((a1.extract 0 ((mn (a1.size : Int) 60) : Int).toNat).toList)) = true then ((sep_Common.f k (a2.extract 0 ((mn (a2.size : Int) 60) : Int).toNat) (a0.extract 0 ((mn (a0.size : Int) 60) : Int).toNat)).bind fun t215 => (if t215 ≥ t214 then ((sep_Common.f k (a2.extract 0 ((mn (a2.size : Int) 60) : Int).toNat) (a1.extract 0 ((mn (a1.size : Int) 60) : Int).toNat)).bind fun t216 => (if t216 ≥ t214 then ((sep_Span.f k (([a0.extract 0 ((mn (a0.size : Int) 60) : Int).toNat, a2.extract 0 ((mn (a2.size : Int) 60) : Int).toNat, a1.extract 0 ((mn (a1.size : Int) 60) : Int).toNat] : List ByteArray))).bind fun t220 => (if t220 = t214 then ((withylaw05_fixed.f k).bind fun t221 => (some t221)) else (none))) else (none))) else (none))) else (none)))) else (if ((Op.bytesLess ((a2.extract 0 ((mn (a2.size : Int) 60) : Int).toNat).toList) ((a0.extract 0 ((mn (a0.size : Int) 60) : Int).toNat).toList)) = true) then ((withylaw05_fixed.f k).bind fun t212 => (some t212)) else (if ((Op.bytesLess ((a2.extract 0 ((mn (a2.size : Int) 60) : Int).toNat).toList) ((a1.extract 0 ((mn (a1.size : Int) 60) : Int).toNat).toList)) = true) then (none) else ((withylaw05_fixed.f k).bind fun t213 => (some t213)))))) else (none)) else (none)) else (none)) else (none)) else (none)) else (none)) = some r := h
  clear h
  obtain ⟨ji4, hji4⟩ : ∃ j_ : Int, (mn (a0.size : Int) 60) = j_ := ⟨_, rfl⟩
  replace H : (if 0 ≤ (ji4) then (if (ji4) ≤ (a0.size : Int) then (if 0 ≤ (mn (a1.size : Int) 60) then (if (mn (a1.size : Int) 60) ≤ (a1.size : Int) then (if 0 ≤ (mn (a2.size : Int) 60) then (if (mn (a2.size : Int) 60) ≤ (a2.size : Int) then ((sep_Between.f (a2.extract 0 ((mn (a2.size : Int) 60) : Int).toNat) (a0.extract 0 ((ji4) : Int).toNat) (a1.extract 0 ((mn (a1.size : Int) 60) : Int).toNat) true).bind fun t211 => (if t211 = true then ((sep_Common.f k (a0.extract 0 ((ji4) : Int).toNat) (a1.extract 0 ((mn (a1.size : Int) 60) : Int).toNat)).bind fun t214 => (if ((Op.bytesLess ((a2.extract 0 ((mn (a2.size : Int) 60) : Int).toNat).toList) ((a0.extract 0 ((ji4) : Int).toNat).toList)) = true) then (none) else (if (Op.bytesLess ((a2.extract 0 ((mn (a2.size : Int) 60) : Int).toNat).toList) ((a1.extract 0 ((mn (a1.size : Int) 60) : Int).toNat).toList)) = true then ((sep_Common.f k (a2.extract 0 ((mn (a2.size : Int) 60) : Int).toNat) (a0.extract 0 ((ji4) : Int).toNat)).bind fun t215 => (if t215 ≥ t214 then ((sep_Common.f k (a2.extract 0 ((mn (a2.size : Int) 60) : Int).toNat) (a1.extract 0 ((mn (a1.size : Int) 60) : Int).toNat)).bind fun t216 => (if t216 ≥ t214 then ((sep_Span.f k (([a0.extract 0 ((ji4) : Int).toNat, a2.extract 0 ((mn (a2.size : Int) 60) : Int).toNat, a1.extract 0 ((mn (a1.size : Int) 60) : Int).toNat] : List ByteArray))).bind fun t220 => (if t220 = t214 then ((withylaw05_fixed.f k).bind fun t221 => (some t221)) else (none))) else (none))) else (none))) else (none)))) else (if ((Op.bytesLess ((a2.extract 0 ((mn (a2.size : Int) 60) : Int).toNat).toList) ((a0.extract 0 ((ji4) : Int).toNat).toList)) = true) then ((withylaw05_fixed.f k).bind fun t212 => (some t212)) else (if ((Op.bytesLess ((a2.extract 0 ((mn (a2.size : Int) 60) : Int).toNat).toList) ((a1.extract 0 ((mn (a1.size : Int) 60) : Int).toNat).toList)) = true) then (none) else ((withylaw05_fixed.f k).bind fun t213 => (some t213)))))) else (none)) else (none)) else (none)) else (none)) else (none)) else (none)) = some r := by first | (rw [hji4] at H; exact H) | (simp only [hji4] at H ⊢; exact H)
  (try (have hji4h : ji4 ≤ 60 := by (rw [← hji4]; unfold mn; (repeat' split) <;> omega)))
  (try (have hji4g : ji4 ≤ 64 := by omega))
  (try (have hji4l : 0 ≤ ji4 := by (rw [← hji4]; unfold mn; (repeat' split) <;> omega)))
  (try (have hji4m : 0 ≤ ji4 := by omega))
  have hji4_ : (if 60 < (a0.size : Int) then 60 else (a0.size : Int)) = ji4 := hji4
  by_cases c5 : 0 ≤ (ji4)
  · rw [if_pos c5] at H
    have c5b0 := eq_true c5
    have c5b1 : decide (0 ≤ (ji4)) = true := decide_eq_true c5
    clear c5
    by_cases c6 : (ji4) ≤ (a0.size : Int)
    · rw [if_pos c6] at H
      have c6b0 := eq_true c6
      have c6b1 : decide ((ji4) ≤ (a0.size : Int)) = true := decide_eq_true c6
      clear c6
      obtain ⟨js7, hjs7⟩ : ∃ j_ : ByteArray, (a0.extract 0 ((ji4) : Int).toNat) = j_ := ⟨_, rfl⟩
      replace H : (if 0 ≤ (mn (a1.size : Int) 60) then (if (mn (a1.size : Int) 60) ≤ (a1.size : Int) then (if 0 ≤ (mn (a2.size : Int) 60) then (if (mn (a2.size : Int) 60) ≤ (a2.size : Int) then ((sep_Between.f (a2.extract 0 ((mn (a2.size : Int) 60) : Int).toNat) (js7) (a1.extract 0 ((mn (a1.size : Int) 60) : Int).toNat) true).bind fun t211 => (if t211 = true then ((sep_Common.f k (js7) (a1.extract 0 ((mn (a1.size : Int) 60) : Int).toNat)).bind fun t214 => (if ((Op.bytesLess ((a2.extract 0 ((mn (a2.size : Int) 60) : Int).toNat).toList) ((js7).toList)) = true) then (none) else (if (Op.bytesLess ((a2.extract 0 ((mn (a2.size : Int) 60) : Int).toNat).toList) ((a1.extract 0 ((mn (a1.size : Int) 60) : Int).toNat).toList)) = true then ((sep_Common.f k (a2.extract 0 ((mn (a2.size : Int) 60) : Int).toNat) (js7)).bind fun t215 => (if t215 ≥ t214 then ((sep_Common.f k (a2.extract 0 ((mn (a2.size : Int) 60) : Int).toNat) (a1.extract 0 ((mn (a1.size : Int) 60) : Int).toNat)).bind fun t216 => (if t216 ≥ t214 then ((sep_Span.f k (([js7, a2.extract 0 ((mn (a2.size : Int) 60) : Int).toNat, a1.extract 0 ((mn (a1.size : Int) 60) : Int).toNat] : List ByteArray))).bind fun t220 => (if t220 = t214 then ((withylaw05_fixed.f k).bind fun t221 => (some t221)) else (none))) else (none))) else (none))) else (none)))) else (if ((Op.bytesLess ((a2.extract 0 ((mn (a2.size : Int) 60) : Int).toNat).toList) ((js7).toList)) = true) then ((withylaw05_fixed.f k).bind fun t212 => (some t212)) else (if ((Op.bytesLess ((a2.extract 0 ((mn (a2.size : Int) 60) : Int).toNat).toList) ((a1.extract 0 ((mn (a1.size : Int) 60) : Int).toNat).toList)) = true) then (none) else ((withylaw05_fixed.f k).bind fun t213 => (some t213)))))) else (none)) else (none)) else (none)) else (none)) = some r := by first | (rw [hjs7] at H; exact H) | (simp only [hjs7] at H ⊢; exact H)
      obtain ⟨ji8, hji8⟩ : ∃ j_ : Int, (mn (a1.size : Int) 60) = j_ := ⟨_, rfl⟩
      replace H : (if 0 ≤ (ji8) then (if (ji8) ≤ (a1.size : Int) then (if 0 ≤ (mn (a2.size : Int) 60) then (if (mn (a2.size : Int) 60) ≤ (a2.size : Int) then ((sep_Between.f (a2.extract 0 ((mn (a2.size : Int) 60) : Int).toNat) (js7) (a1.extract 0 ((ji8) : Int).toNat) true).bind fun t211 => (if t211 = true then ((sep_Common.f k (js7) (a1.extract 0 ((ji8) : Int).toNat)).bind fun t214 => (if ((Op.bytesLess ((a2.extract 0 ((mn (a2.size : Int) 60) : Int).toNat).toList) ((js7).toList)) = true) then (none) else (if (Op.bytesLess ((a2.extract 0 ((mn (a2.size : Int) 60) : Int).toNat).toList) ((a1.extract 0 ((ji8) : Int).toNat).toList)) = true then ((sep_Common.f k (a2.extract 0 ((mn (a2.size : Int) 60) : Int).toNat) (js7)).bind fun t215 => (if t215 ≥ t214 then ((sep_Common.f k (a2.extract 0 ((mn (a2.size : Int) 60) : Int).toNat) (a1.extract 0 ((ji8) : Int).toNat)).bind fun t216 => (if t216 ≥ t214 then ((sep_Span.f k (([js7, a2.extract 0 ((mn (a2.size : Int) 60) : Int).toNat, a1.extract 0 ((ji8) : Int).toNat] : List ByteArray))).bind fun t220 => (if t220 = t214 then ((withylaw05_fixed.f k).bind fun t221 => (some t221)) else (none))) else (none))) else (none))) else (none)))) else (if ((Op.bytesLess ((a2.extract 0 ((mn (a2.size : Int) 60) : Int).toNat).toList) ((js7).toList)) = true) then ((withylaw05_fixed.f k).bind fun t212 => (some t212)) else (if ((Op.bytesLess ((a2.extract 0 ((mn (a2.size : Int) 60) : Int).toNat).toList) ((a1.extract 0 ((ji8) : Int).toNat).toList)) = true) then (none) else ((withylaw05_fixed.f k).bind fun t213 => (some t213)))))) else (none)) else (none)) else (none)) else (none)) = some r := by first | (rw [hji8] at H; exact H) | (simp only [hji8] at H ⊢; exact H)
      (try (have hji8h : ji8 ≤ 60 := by (rw [← hji8]; unfold mn; (repeat' split) <;> omega)))
      (try (have hji8g : ji8 ≤ 64 := by omega))
      (try (have hji8l : 0 ≤ ji8 := by (rw [← hji8]; unfold mn; (repeat' split) <;> omega)))
      (try (have hji8m : 0 ≤ ji8 := by omega))
      have hji8_ : (if 60 < (a1.size : Int) then 60 else (a1.size : Int)) = ji8 := hji8
      by_cases c9 : 0 ≤ (ji8)
      · rw [if_pos c9] at H
        have c9b0 := eq_true c9
        have c9b1 : decide (0 ≤ (ji8)) = true := decide_eq_true c9
        clear c9
        by_cases c10 : (ji8) ≤ (a1.size : Int)
        · rw [if_pos c10] at H
          have c10b0 := eq_true c10
          have c10b1 : decide ((ji8) ≤ (a1.size : Int)) = true := decide_eq_true c10
          clear c10
          obtain ⟨js11, hjs11⟩ : ∃ j_ : ByteArray, (a1.extract 0 ((ji8) : Int).toNat) = j_ := ⟨_, rfl⟩
          replace H : (if 0 ≤ (mn (a2.size : Int) 60) then (if (mn (a2.size : Int) 60) ≤ (a2.size : Int) then ((sep_Between.f (a2.extract 0 ((mn (a2.size : Int) 60) : Int).toNat) (js7) (js11) true).bind fun t211 => (if t211 = true then ((sep_Common.f k (js7) (js11)).bind fun t214 => (if ((Op.bytesLess ((a2.extract 0 ((mn (a2.size : Int) 60) : Int).toNat).toList) ((js7).toList)) = true) then (none) else (if (Op.bytesLess ((a2.extract 0 ((mn (a2.size : Int) 60) : Int).toNat).toList) ((js11).toList)) = true then ((sep_Common.f k (a2.extract 0 ((mn (a2.size : Int) 60) : Int).toNat) (js7)).bind fun t215 => (if t215 ≥ t214 then ((sep_Common.f k (a2.extract 0 ((mn (a2.size : Int) 60) : Int).toNat) (js11)).bind fun t216 => (if t216 ≥ t214 then ((sep_Span.f k (([js7, a2.extract 0 ((mn (a2.size : Int) 60) : Int).toNat, js11] : List ByteArray))).bind fun t220 => (if t220 = t214 then ((withylaw05_fixed.f k).bind fun t221 => (some t221)) else (none))) else (none))) else (none))) else (none)))) else (if ((Op.bytesLess ((a2.extract 0 ((mn (a2.size : Int) 60) : Int).toNat).toList) ((js7).toList)) = true) then ((withylaw05_fixed.f k).bind fun t212 => (some t212)) else (if ((Op.bytesLess ((a2.extract 0 ((mn (a2.size : Int) 60) : Int).toNat).toList) ((js11).toList)) = true) then (none) else ((withylaw05_fixed.f k).bind fun t213 => (some t213)))))) else (none)) else (none)) = some r := by first | (rw [hjs11] at H; exact H) | (simp only [hjs11] at H ⊢; exact H)
          obtain ⟨ji12, hji12⟩ : ∃ j_ : Int, (mn (a2.size : Int) 60) = j_ := ⟨_, rfl⟩
          replace H : (if 0 ≤ (ji12) then (if (ji12) ≤ (a2.size : Int) then ((sep_Between.f (a2.extract 0 ((ji12) : Int).toNat) (js7) (js11) true).bind fun t211 => (if t211 = true then ((sep_Common.f k (js7) (js11)).bind fun t214 => (if ((Op.bytesLess ((a2.extract 0 ((ji12) : Int).toNat).toList) ((js7).toList)) = true) then (none) else (if (Op.bytesLess ((a2.extract 0 ((ji12) : Int).toNat).toList) ((js11).toList)) = true then ((sep_Common.f k (a2.extract 0 ((ji12) : Int).toNat) (js7)).bind fun t215 => (if t215 ≥ t214 then ((sep_Common.f k (a2.extract 0 ((ji12) : Int).toNat) (js11)).bind fun t216 => (if t216 ≥ t214 then ((sep_Span.f k (([js7, a2.extract 0 ((ji12) : Int).toNat, js11] : List ByteArray))).bind fun t220 => (if t220 = t214 then ((withylaw05_fixed.f k).bind fun t221 => (some t221)) else (none))) else (none))) else (none))) else (none)))) else (if ((Op.bytesLess ((a2.extract 0 ((ji12) : Int).toNat).toList) ((js7).toList)) = true) then ((withylaw05_fixed.f k).bind fun t212 => (some t212)) else (if ((Op.bytesLess ((a2.extract 0 ((ji12) : Int).toNat).toList) ((js11).toList)) = true) then (none) else ((withylaw05_fixed.f k).bind fun t213 => (some t213)))))) else (none)) else (none)) = some r := by first | (rw [hji12] at H; exact H) | (simp only [hji12] at H ⊢; exact H)
          (try (have hji12h : ji12 ≤ 60 := by (rw [← hji12]; unfold mn; (repeat' split) <;> omega)))
          (try (have hji12g : ji12 ≤ 64 := by omega))
          (try (have hji12l : 0 ≤ ji12 := by (rw [← hji12]; unfold mn; (repeat' split) <;> omega)))
          (try (have hji12m : 0 ≤ ji12 := by omega))
          have hji12_ : (if 60 < (a2.size : Int) then 60 else (a2.size : Int)) = ji12 := hji12
          by_cases c13 : 0 ≤ (ji12)
          · rw [if_pos c13] at H
            have c13b0 := eq_true c13
            have c13b1 : decide (0 ≤ (ji12)) = true := decide_eq_true c13
            clear c13
            by_cases c14 : (ji12) ≤ (a2.size : Int)
            · rw [if_pos c14] at H
              have c14b0 := eq_true c14
              have c14b1 : decide ((ji12) ≤ (a2.size : Int)) = true := decide_eq_true c14
              clear c14
              obtain ⟨js15, hjs15⟩ : ∃ j_ : ByteArray, (a2.extract 0 ((ji12) : Int).toNat) = j_ := ⟨_, rfl⟩
              replace H : ((sep_Between.f (js15) (js7) (js11) true).bind fun t211 => (if t211 = true then ((sep_Common.f k (js7) (js11)).bind fun t214 => (if ((Op.bytesLess ((js15).toList) ((js7).toList)) = true) then (none) else (if (Op.bytesLess ((js15).toList) ((js11).toList)) = true then ((sep_Common.f k (js15) (js7)).bind fun t215 => (if t215 ≥ t214 then ((sep_Common.f k (js15) (js11)).bind fun t216 => (if t216 ≥ t214 then ((sep_Span.f k (([js7, js15, js11] : List ByteArray))).bind fun t220 => (if t220 = t214 then ((withylaw05_fixed.f k).bind fun t221 => (some t221)) else (none))) else (none))) else (none))) else (none)))) else (if ((Op.bytesLess ((js15).toList) ((js7).toList)) = true) then ((withylaw05_fixed.f k).bind fun t212 => (some t212)) else (if ((Op.bytesLess ((js15).toList) ((js11).toList)) = true) then (none) else ((withylaw05_fixed.f k).bind fun t213 => (some t213)))))) = some r := by first | (rw [hjs15] at H; exact H) | (simp only [hjs15] at H ⊢; exact H)
              replace H := Option.bind_eq_some_iff.mp H
              obtain ⟨t211, A160, H⟩ := H
              replace H : (if t211 = true then ((sep_Common.f k (js7) (js11)).bind fun t214 => (if ((Op.bytesLess ((js15).toList) ((js7).toList)) = true) then (none) else (if (Op.bytesLess ((js15).toList) ((js11).toList)) = true then ((sep_Common.f k (js15) (js7)).bind fun t215 => (if t215 ≥ t214 then ((sep_Common.f k (js15) (js11)).bind fun t216 => (if t216 ≥ t214 then ((sep_Span.f k (([js7, js15, js11] : List ByteArray))).bind fun t220 => (if t220 = t214 then ((withylaw05_fixed.f k).bind fun t221 => (some t221)) else (none))) else (none))) else (none))) else (none)))) else (if ((Op.bytesLess ((js15).toList) ((js7).toList)) = true) then ((withylaw05_fixed.f k).bind fun t212 => (some t212)) else (if ((Op.bytesLess ((js15).toList) ((js11).toList)) = true) then (none) else ((withylaw05_fixed.f k).bind fun t213 => (some t213))))) = some r := H
              have A16 := Aside0.mk A160
              clear A160
              by_cases c17 : t211 = true
              · subst c17
                have H1 : ((sep_Common.f k (js7) (js11)).bind fun t214 => (if ((Op.bytesLess ((js15).toList) ((js7).toList)) = true) then (none) else (if (Op.bytesLess ((js15).toList) ((js11).toList)) = true then ((sep_Common.f k (js15) (js7)).bind fun t215 => (if t215 ≥ t214 then ((sep_Common.f k (js15) (js11)).bind fun t216 => (if t216 ≥ t214 then ((sep_Span.f k (([js7, js15, js11] : List ByteArray))).bind fun t220 => (if t220 = t214 then ((withylaw05_fixed.f k).bind fun t221 => (some t221)) else (none))) else (none))) else (none))) else (none)))) = some r := by rw [if_pos rfl] at H; exact H
                clear H
                have H := H1
                clear H1
                replace H := Option.bind_eq_some_iff.mp H
                obtain ⟨t214, A180, H⟩ := H
                replace H : (if ((Op.bytesLess ((js15).toList) ((js7).toList)) = true) then (none) else (if (Op.bytesLess ((js15).toList) ((js11).toList)) = true then ((sep_Common.f k (js15) (js7)).bind fun t215 => (if t215 ≥ t214 then ((sep_Common.f k (js15) (js11)).bind fun t216 => (if t216 ≥ t214 then ((sep_Span.f k (([js7, js15, js11] : List ByteArray))).bind fun t220 => (if t220 = t214 then ((withylaw05_fixed.f k).bind fun t221 => (some t221)) else (none))) else (none))) else (none))) else (none))) = some r := H
                have A18 := Aside0.mk A180
                clear A180
                by_cases c19 : ((Op.bytesLess ((js15).toList) ((js7).toList)) = true)
                · rw [if_pos c19] at H
                  exact absurd H (by simp)
                · rw [if_neg c19] at H
                  have c19b0 : (Op.bytesLess ((js15).toList) ((js7).toList)) = false := by simpa using c19
                  clear c19
                  by_cases c20 : (Op.bytesLess ((js15).toList) ((js11).toList)) = true
                  · rw [if_pos c20] at H
                    have c20b0 : (Op.bytesLess ((js15).toList) ((js11).toList)) = true := c20
                    clear c20
                    replace H := Option.bind_eq_some_iff.mp H
                    obtain ⟨t215, A210, H⟩ := H
                    replace H : (if t215 ≥ t214 then ((sep_Common.f k (js15) (js11)).bind fun t216 => (if t216 ≥ t214 then ((sep_Span.f k (([js7, js15, js11] : List ByteArray))).bind fun t220 => (if t220 = t214 then ((withylaw05_fixed.f k).bind fun t221 => (some t221)) else (none))) else (none))) else (none)) = some r := H
                    have A21 := Aside0.mk A210
                    clear A210
                    by_cases c22 : t215 ≥ t214
                    · rw [if_pos c22] at H
                      have c22b0 : decide (t214 ≤ t215) = true := decide_eq_true c22
                      clear c22
                      replace H := Option.bind_eq_some_iff.mp H
                      obtain ⟨t216, A230, H⟩ := H
                      replace H : (if t216 ≥ t214 then ((sep_Span.f k (([js7, js15, js11] : List ByteArray))).bind fun t220 => (if t220 = t214 then ((withylaw05_fixed.f k).bind fun t221 => (some t221)) else (none))) else (none)) = some r := H
                      have A23 := Aside0.mk A230
                      clear A230
                      by_cases c24 : t216 ≥ t214
                      · rw [if_pos c24] at H
                        have c24b0 : decide (t214 ≤ t216) = true := decide_eq_true c24
                        clear c24
                        obtain ⟨y217, hy217⟩ : ∃ y_ : List ByteArray, y_ = (([js7, js15, js11] : List ByteArray)) := ⟨_, rfl⟩
                        replace H : ((sep_Span.f k y217).bind fun t220 => (if t220 = t214 then ((withylaw05_fixed.f k).bind fun t221 => (some t221)) else (none))) = some r := by first | (rw [hy217]; with_reducible exact H) | (have H2_ := (Option.bind_some _ _).symm.trans H; rw [hy217]; with_reducible exact H2_) | (have H2_ := (Option.bind_some _ _).symm.trans H; with_reducible exact H2_) | with_reducible exact H | (rw [hy217]; exact H) | exact H
                        have Ny217 := Aside0.mk hy217
                        clear hy217
                        replace H := Option.bind_eq_some_iff.mp H
                        obtain ⟨t220, A250, H⟩ := H
                        replace H : (if t220 = t214 then ((withylaw05_fixed.f k).bind fun t221 => (some t221)) else (none)) = some r := H
                        have A25 := Aside0.mk A250
                        clear A250
                        by_cases c26 : t220 = t214
                        · rw [if_pos c26] at H
                          have c26b0 : (t220 == t214) = true := beq_iff_eq.mpr c26
                          have c26b1 : (t220 != t214) = false := bne_eq_false_iff_eq.mpr c26
                          clear c26
                          replace H := Option.bind_eq_some_iff.mp H
                          obtain ⟨t221, A270, H⟩ := H
                          replace H : (some t221) = some r := H
                          have A27 := Aside0.mk A270
                          clear A270
                          obtain rfl := Option.some.inj H
                          go_enter Try.func5, Try.ntmps5
                          (try simp only [List.append_eq, List.cons_append, List.nil_append])
                          go_wp2_with (first | ((with_reducible refine gate_callee (f := 19) rfl ?_); refine goesL_ (some 26) rfl rfl Try.func19 (by kernel_rfl) rfl #[.string js15, .string js7, .string js11, .bool true] rfl (by (try simp only [List.map_toArray, List.map_cons, List.map_nil]); first | done | rfl | (simp only [List.length_drop, List.length_take]; rfl)) ?_; (with_reducible refine (sep_Between.calls js15 js7 js11 true true _ A16.out).mono ?_); rintro e w' ⟨rfl, ⟨nd, rfl⟩⟩; refine ⟨_, rfl, ?_⟩) | ((with_reducible refine gate_callee (f := 14) rfl ?_); refine goesL_ (some 42) rfl rfl Try.func14 (by kernel_rfl) rfl #[.string js7, .string js11] rfl (by (try simp only [List.map_toArray, List.map_cons, List.map_nil]); first | done | rfl | (simp only [List.length_drop, List.length_take]; rfl)) ?_; (with_reducible refine (sep_Common.calls k js7 js11 t214 _ A18.out).mono ?_); rintro e w28 ⟨rfl, hb⟩; refine ⟨_, rfl, ?_⟩; have n0_ := Aside0.mk (below_step (by repeat (first | (with_reducible first | exact HB.out | apply below_alloc | apply pw_below_drewN | apply below_drew1) | exact HB.out)) hb); clear HB; have HB := n0_; clear n0_; (try clear hb); (try clear hb2); (try clear hk); (try clear hi)) | (go_at_call 14; (with_reducible refine (sep_Common.calls k js15 js7 t215 _ A21.out).mono ?_); rintro e w29 ⟨rfl, hb⟩; have n0_ := Aside0.mk (below_step (by repeat (first | (with_reducible first | exact HB.out | apply below_alloc | apply pw_below_drewN | apply below_drew1) | exact HB.out)) hb); clear HB; have HB := n0_; clear n0_; (try clear hb); (try clear hb2); (try clear hk); (try clear hi)) | (go_at_call 14; (with_reducible refine (sep_Common.calls k js15 js11 t216 _ A23.out).mono ?_); rintro e w30 ⟨rfl, hb⟩; have n0_ := Aside0.mk (below_step (by repeat (first | (with_reducible first | exact HB.out | apply below_alloc | apply pw_below_drewN | apply below_drew1) | exact HB.out)) hb); clear HB; have HB := n0_; clear n0_; (try clear hb); (try clear hb2); (try clear hk); (try clear hi)) | ((with_reducible refine gate_dst (N := 69) rfl ?_); (try (refine gate_guard (by rfl) ?_; dsimp only)); refine Kd.R_lit Kd.string _ 9 ?hg (N := 69) ?hd (xs := ([js7, js15, js11] : List ByteArray)) (inner := [.string js7, .string js15, .string js11]) (ok := fun _ => True) (okp := fun _ => True) ?hr ?hp (fun _ hk => hk) trivial (Below.refl _ _) (Nat.le_refl _) (by simp) ?_; (case hd => rfl); (case hg => rfl); (case hr => first | (go_simp; done) | (go_simp; rfl)); (case hp => exact (Reps.one (show Kd.M Kd.string _ _ _ js7 [.string js7] from rfl) (Reps.one (show Kd.M Kd.string _ _ _ js15 [.string js15] from rfl) (Reps.one (show Kd.M Kd.string _ _ _ js11 [.string js11] from rfl) (Reps.none _ _))))); intro v218 w31 ho32 hb hg_ hnew_; clear hg_ hnew_; (first | rw [← Ny217.out] at ho32 | (simp only [Int.reduceToNat] at ho32; rw [← Ny217.out] at ho32)); have n0_ := Aside0.mk (Kd.R_lower ho32 (below_size (by repeat (first | (with_reducible first | exact HB.out | apply below_alloc | apply pw_below_drewN | apply below_drew1) | exact HB.out)))); have n1_ := Aside0.mk (below_step (by repeat (first | (with_reducible first | exact HB.out | apply below_alloc | apply pw_below_drewN | apply below_drew1) | exact HB.out)) hb); clear HB; have HO219 := n0_; have HB := n1_; clear n0_ n1_; clear hb ho32; obtain ⟨Ao33, co33, eo33⟩ := Kd.R_slice HO219.out; subst eo33) | (go_at_call 16; (with_reducible refine (sep_Span.calls k _ _ y217 t220 _ ?side1 ?side2 A25.out).mono ?_); (case side1 => repeat (first | exact (Kd.R_reads' HO219.out).2.2 | (with_reducible refine Kd.C_alloc ?_ _) | (with_reducible refine Kd.C_drewN ?_ _) | (with_reducible refine Kd.C_drew ?_))); (case side2 => exact (Kd.R_reads' HO219.out).2.1); rintro e w34 ⟨rfl, hb⟩; have n0_ := Aside0.mk (Kd.R_below (by (with_reducible repeat (first | apply Kd.R_alloc | apply Kd.R_drewN | apply Kd.R_drew)); exact HO219.out) hb); have n1_ := Aside0.mk (below_step (by repeat (first | (with_reducible first | exact HB.out | apply below_alloc | apply pw_below_drewN | apply below_drew1) | exact HB.out)) hb); clear HO219; clear HB; have HO219 := n0_; have HB := n1_; clear n0_ n1_; (try clear hb); (try clear hb2); (try clear hk); (try clear hi)) | (go_at_call 20; (with_reducible refine (withylaw05_fixed.calls k  t221 _ A27.out).mono ?_); rintro e w35 ⟨rfl, hb⟩; have n0_ := Aside0.mk (Kd.R_below (by (with_reducible repeat (first | apply Kd.R_alloc | apply Kd.R_drewN | apply Kd.R_drew)); exact HO219.out) hb); have n1_ := Aside0.mk (below_step (by repeat (first | (with_reducible first | exact HB.out | apply below_alloc | apply pw_below_drewN | apply below_drew1) | exact HB.out)) hb); clear HO219; clear HB; have HO219 := n0_; have HB := n1_; clear n0_ n1_; (try clear hb); (try clear hb2); (try clear hk); (try clear hi)))
                          go_ret
                          exact ⟨by first | rfl | (simp [errW_none, errW_some] <;> rfl) | (simp only [← hji4, ← hjs7, ← hji8, ← hjs11, ← hji12, ← hjs15]; first | rfl | (simp [errW_none, errW_some] <;> rfl)) | (simp [*, errW_none, errW_some] <;> rfl), by repeat (first | (with_reducible first | exact HB.out | apply below_alloc | apply pw_below_drewN | apply below_drew1) | exact HB.out)⟩
                        · rw [if_neg c26] at H
                          exact absurd H (by simp)
                      · rw [if_neg c24] at H
                        exact absurd H (by simp)
                    · rw [if_neg c22] at H
                      exact absurd H (by simp)
                  · rw [if_neg c20] at H
                    exact absurd H (by simp)
              · replace c17 := Bool.eq_false_iff.mpr c17
                subst c17
                have H1 : (if ((Op.bytesLess ((js15).toList) ((js7).toList)) = true) then ((withylaw05_fixed.f k).bind fun t212 => (some t212)) else (if ((Op.bytesLess ((js15).toList) ((js11).toList)) = true) then (none) else ((withylaw05_fixed.f k).bind fun t213 => (some t213)))) = some r := by rw [if_neg (show ¬ (false = true) by decide)] at H; exact H
                clear H
                have H := H1
                clear H1
                by_cases c36 : ((Op.bytesLess ((js15).toList) ((js7).toList)) = true)
                · rw [if_pos c36] at H
                  have c36b0 : (Op.bytesLess ((js15).toList) ((js7).toList)) = true := c36
                  clear c36
                  replace H := Option.bind_eq_some_iff.mp H
                  obtain ⟨t212, A370, H⟩ := H
                  replace H : (some t212) = some r := H
                  have A37 := Aside0.mk A370
                  clear A370
                  obtain rfl := Option.some.inj H
                  go_enter Try.func5, Try.ntmps5
                  (try simp only [List.append_eq, List.cons_append, List.nil_append])
                  go_wp2_with (first | ((with_reducible refine gate_callee (f := 19) rfl ?_); refine goesL_ (some 26) rfl rfl Try.func19 (by kernel_rfl) rfl #[.string js15, .string js7, .string js11, .bool true] rfl (by (try simp only [List.map_toArray, List.map_cons, List.map_nil]); first | done | rfl | (simp only [List.length_drop, List.length_take]; rfl)) ?_; (with_reducible refine (sep_Between.calls js15 js7 js11 true false _ A16.out).mono ?_); rintro e w' ⟨rfl, ⟨nd, rfl⟩⟩; refine ⟨_, rfl, ?_⟩) | (go_at_call 20; (with_reducible refine (withylaw05_fixed.calls k  t212 _ A37.out).mono ?_); rintro e w38 ⟨rfl, hb⟩; have n0_ := Aside0.mk (below_step (by repeat (first | (with_reducible first | exact HB.out | apply below_alloc | apply pw_below_drewN | apply below_drew1) | exact HB.out)) hb); clear HB; have HB := n0_; clear n0_; (try clear hb); (try clear hb2); (try clear hk); (try clear hi)))
                  go_ret
                  exact ⟨by first | rfl | (simp [errW_none, errW_some] <;> rfl) | (simp only [← hji4, ← hjs7, ← hji8, ← hjs11, ← hji12, ← hjs15]; first | rfl | (simp [errW_none, errW_some] <;> rfl)) | (simp [*, errW_none, errW_some] <;> rfl), by repeat (first | (with_reducible first | exact HB.out | apply below_alloc | apply pw_below_drewN | apply below_drew1) | exact HB.out)⟩
                · rw [if_neg c36] at H
                  have c36b0 : (Op.bytesLess ((js15).toList) ((js7).toList)) = false := by simpa using c36
                  clear c36
                  by_cases c39 : ((Op.bytesLess ((js15).toList) ((js11).toList)) = true)
                  · rw [if_pos c39] at H
                    exact absurd H (by simp)
                  · rw [if_neg c39] at H
                    have c39b0 : (Op.bytesLess ((js15).toList) ((js11).toList)) = false := by simpa using c39
                    clear c39
                    replace H := Option.bind_eq_some_iff.mp H
                    obtain ⟨t213, A400, H⟩ := H
                    replace H : (some t213) = some r := H
                    have A40 := Aside0.mk A400
                    clear A400
                    obtain rfl := Option.some.inj H
                    go_enter Try.func5, Try.ntmps5
                    (try simp only [List.append_eq, List.cons_append, List.nil_append])
                    go_wp2_with (first | ((with_reducible refine gate_callee (f := 19) rfl ?_); refine goesL_ (some 26) rfl rfl Try.func19 (by kernel_rfl) rfl #[.string js15, .string js7, .string js11, .bool true] rfl (by (try simp only [List.map_toArray, List.map_cons, List.map_nil]); first | done | rfl | (simp only [List.length_drop, List.length_take]; rfl)) ?_; (with_reducible refine (sep_Between.calls js15 js7 js11 true false _ A16.out).mono ?_); rintro e w' ⟨rfl, ⟨nd, rfl⟩⟩; refine ⟨_, rfl, ?_⟩) | (go_at_call 20; (with_reducible refine (withylaw05_fixed.calls k  t213 _ A40.out).mono ?_); rintro e w41 ⟨rfl, hb⟩; have n0_ := Aside0.mk (below_step (by repeat (first | (with_reducible first | exact HB.out | apply below_alloc | apply pw_below_drewN | apply below_drew1) | exact HB.out)) hb); clear HB; have HB := n0_; clear n0_; (try clear hb); (try clear hb2); (try clear hk); (try clear hi)))
                    go_ret
                    exact ⟨by first | rfl | (simp [errW_none, errW_some] <;> rfl) | (simp only [← hji4, ← hjs7, ← hji8, ← hjs11, ← hji12, ← hjs15]; first | rfl | (simp [errW_none, errW_some] <;> rfl)) | (simp [*, errW_none, errW_some] <;> rfl), by repeat (first | (with_reducible first | exact HB.out | apply below_alloc | apply pw_below_drewN | apply below_drew1) | exact HB.out)⟩
            · rw [if_neg c14] at H
              exact absurd H (by simp)
          · rw [if_neg c13] at H
            exact absurd H (by simp)
        · rw [if_neg c10] at H
          exact absurd H (by simp)
      · rw [if_neg c9] at H
        exact absurd H (by simp)
    · rw [if_neg c6] at H
      exact absurd H (by simp)
  · rw [if_neg c5] at H
    exact absurd H (by simp)

end Go.Proofs.Ythflaiogollleaa.P
