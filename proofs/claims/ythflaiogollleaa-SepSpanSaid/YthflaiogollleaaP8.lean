/- What is proved here: for functions of the Go text, a Lean function each, and that the call comes to just what it answers. Conditions: as each contract names them. Written by wip/tools/myprint.py, a driver of the print of the kit. -/
import Derived.Test.YthflaiogollleaaP0
import Derived.Test.YthflaiogollleaaP1
import Derived.Test.YthflaiogollleaaP2
import Derived.Test.YthflaiogollleaaP6
namespace Go.Proofs.Ythflaiogollleaa.P
open Go.RowKit Go.Proofs.YthflaiogollleaaW.PrintWords Go.Proofs.YthflaiogollleaaW.PrintLast Go.Proofs.YthflaiogollleaaW.PrintMore
attribute [local go_sem] max2_int min2_int max_two min_two max_three min_three max_four min_four Go.Proofs.YthflaiogollleaaLaws.str_leq Go.Proofs.YthflaiogollleaaLaws.str_gtr Go.Proofs.YthflaiogollleaaLaws.str_geq Go.Proofs.YthflaiogollleaaLaws.max2_str Go.Proofs.YthflaiogollleaaLaws.min2_str   -- for this text's walks alone
set_option linter.unusedVariables false
set_option linter.unusedSimpArgs false

/-! ### withylaw05_SepLeast: function 4 -/
def withylaw05_SepLeast.j0 : Nat → ByteArray → ByteArray → ByteArray → Bool → Option (Bool)
  | 0, _, _, _, _ => none
  | k + 1, x0, x1, x5, x66 => if x66 = true then (none) else (if 0 ≤ (wrap64 ((x5.size : Int) - 1)) then (if (wrap64 ((x5.size : Int) - 1)) ≤ (x5.size : Int) then (if ((Op.bytesLess x0.toList ((x5.extract 0 ((wrap64 ((x5.size : Int) - 1)) : Int).toNat).toList)) = true) then (none) else ((sep_Common.f k x0 x1).bind fun t208 => (if t208 = (wrap64 ((x5.size : Int) - 1)) then ((sep_Common.f k x5 x1).bind fun t209 => (if t209 = (x5.size : Int) then ((withylaw05_fixed.f k).bind fun t210 => (some t210)) else (none))) else (none)))) else (none)) else (none))
def withylaw05_SepLeast.f (k : Nat) (a0 : ByteArray) (a1 : ByteArray) : Option (Bool) := if 0 ≤ (mn (a0.size : Int) 60) then (if (mn (a0.size : Int) 60) ≤ (a0.size : Int) then (if 0 ≤ (mn (a1.size : Int) 60) then (if (mn (a1.size : Int) 60) ≤ (a1.size : Int) then ((sep_Least.f k (a0.extract 0 ((mn (a0.size : Int) 60) : Int).toNat) (a1.extract 0 ((mn (a1.size : Int) 60) : Int).toNat)).bind fun bt205 => (if ((Op.bytesLess ((a0.extract 0 ((mn (a0.size : Int) 60) : Int).toNat).toList) ((a1.extract 0 ((mn (a1.size : Int) 60) : Int).toNat).toList)) = true) then (if bt205.2 = 0 then (if (bt205.1.size : Int) < 1 then (withylaw05_SepLeast.j0 k (a0.extract 0 ((mn (a0.size : Int) 60) : Int).toNat) (a1.extract 0 ((mn (a1.size : Int) 60) : Int).toNat) bt205.1 true) else (if (bt205.1.size : Int) > ((a1.extract 0 ((mn (a1.size : Int) 60) : Int).toNat).size : Int) then (withylaw05_SepLeast.j0 k (a0.extract 0 ((mn (a0.size : Int) 60) : Int).toNat) (a1.extract 0 ((mn (a1.size : Int) 60) : Int).toNat) bt205.1 true) else (if 0 ≤ (bt205.1.size : Int) then (if (bt205.1.size : Int) ≤ ((a1.extract 0 ((mn (a1.size : Int) 60) : Int).toNat).size : Int) then (if ((a1.extract 0 ((mn (a1.size : Int) 60) : Int).toNat).extract 0 bt205.1.size).toList = bt205.1.toList then (if ((Op.bytesLess ((a0.extract 0 ((mn (a0.size : Int) 60) : Int).toNat).toList) bt205.1.toList) = true) then (withylaw05_SepLeast.j0 k (a0.extract 0 ((mn (a0.size : Int) 60) : Int).toNat) (a1.extract 0 ((mn (a1.size : Int) 60) : Int).toNat) bt205.1 (Op.bytesLess ((a1.extract 0 ((mn (a1.size : Int) 60) : Int).toNat).toList) bt205.1.toList)) else (withylaw05_SepLeast.j0 k (a0.extract 0 ((mn (a0.size : Int) 60) : Int).toNat) (a1.extract 0 ((mn (a1.size : Int) 60) : Int).toNat) bt205.1 true)) else (withylaw05_SepLeast.j0 k (a0.extract 0 ((mn (a0.size : Int) 60) : Int).toNat) (a1.extract 0 ((mn (a1.size : Int) 60) : Int).toNat) bt205.1 true)) else (none)) else (none)))) else (withylaw05_SepLeast.j0 k (a0.extract 0 ((mn (a0.size : Int) 60) : Int).toNat) (a1.extract 0 ((mn (a1.size : Int) 60) : Int).toNat) bt205.1 true)) else (if bt205.2 = 1 then (if bt205.1.toList = ([] : List UInt8) then ((withylaw05_fixed.f k).bind fun t207 => (some t207)) else (none)) else (none)))) else (none)) else (none)) else (none)) else (none)
theorem withylaw05_SepLeast.mono_l : ∀ k, (∀ y0 y1 y2 y3, LeO (withylaw05_SepLeast.j0 k y0 y1 y2 y3) (withylaw05_SepLeast.j0 (k + 1) y0 y1 y2 y3))
  | 0 => fun _ _ _ _ r h => by simp [withylaw05_SepLeast.j0] at h
  | k + 1 => by
    have ih0 := withylaw05_SepLeast.mono_l k
    · intro y0 y1 y2 y3
      unfold withylaw05_SepLeast.j0
      repeat' first
      | (with_reducible exact ih0 _ _ _ _)
      | (with_reducible exact sep_Common.mono _ _ _)
      | (with_reducible exact sep_Least.mono _ _ _)
      | (with_reducible exact withylaw05_fixed.mono _)
      | (with_reducible exact LeO.refl _)
      | (with_reducible exact LeO.none _)
      | (with_reducible refine LeO.ite ?_ ?_)
      | (with_reducible refine LeO.bind ?_ (fun _ => ?_))
      | exact ih0 _ _ _ _
      | exact sep_Common.mono _ _ _
      | exact sep_Least.mono _ _ _
      | exact withylaw05_fixed.mono _
      | exact LeO.none _
      | refine LeO.ite ?_ ?_
      | refine LeO.bind ?_ (fun _ => ?_)
theorem withylaw05_SepLeast.mono : ∀ a0 a1 k, LeO (withylaw05_SepLeast.f k a0 a1) (withylaw05_SepLeast.f (k + 1) a0 a1) := by
  intro a0 a1 k
  have ih0 := withylaw05_SepLeast.mono_l k
  unfold withylaw05_SepLeast.f
  repeat' first
      | (with_reducible exact ih0 _ _ _ _)
      | (with_reducible exact sep_Common.mono _ _ _)
      | (with_reducible exact sep_Least.mono _ _ _)
      | (with_reducible exact withylaw05_fixed.mono _)
      | (with_reducible exact LeO.refl _)
      | (with_reducible exact LeO.none _)
      | (with_reducible refine LeO.ite ?_ ?_)
      | (with_reducible refine LeO.bind ?_ (fun _ => ?_))
      | exact ih0 _ _ _ _
      | exact sep_Common.mono _ _ _
      | exact sep_Least.mono _ _ _
      | exact withylaw05_fixed.mono _
      | exact LeO.none _
      | refine LeO.ite ?_ ?_
      | refine LeO.bind ?_ (fun _ => ?_)
set_option maxHeartbeats 8000000 in
set_option maxRecDepth 100000 in
theorem withylaw05_SepLeast.calls (k : Nat) (a0 : ByteArray) (a1 : ByteArray) (r : Bool) (w : World) (h : withylaw05_SepLeast.f k a0 a1 = some r) :
    Calls Try.prog 4 #[.string a0, .string a1] w fun e w' => e = .returned (.bool r) ∧ Below w.heap.size w w' := by
  have HB := Aside0.mk (Below.refl w.heap.size w)
  have H : (if 0 ≤ (mn (a0.size : Int) 60) then (if (mn (a0.size : Int) 60) ≤ (a0.size : Int) then (if 0 ≤ (mn (a1.size : Int) 60) then (if (mn (a1.size : Int) 60) ≤ (a1.size : Int) then ((sep_Least.f k (a0.extract 0 ((mn (a0.size : Int) 60) : Int).toNat) (a1.extract 0 ((mn (a1.size : Int) 60) : Int).toNat)).bind fun bt205 => (if ((Op.bytesLess ((a0.extract 0 ((mn (a0.size : Int) 60) : Int).toNat).toList) ((a1.extract 0 ((mn (a1.size : Int) 60) : Int).toNat).toList)) = true) then (if bt205.2 = 0 then (if (bt205.1.size : Int) < 1 then (withylaw05_SepLeast.j0 k (a0.extract 0 ((mn (a0.size : Int) 60) : Int).toNat) (a1.extract 0 ((mn (a1.size : Int) 60) : Int).toNat) bt205.1 true) else (if (bt205.1.size : Int) > ((a1.extract 0 ((mn (a1.size : Int) 60) : Int).toNat).size : Int) then (withylaw05_SepLeast.j0 k (a0.extract 0 ((mn (a0.size : Int) 60) : Int).toNat) (a1.extract 0 ((mn (a1.size : Int) 60) : Int).toNat) bt205.1 true) else (if 0 ≤ (bt205.1.size : Int) then (if (bt205.1.size : Int) ≤ ((a1.extract 0 ((mn (a1.size : Int) 60) : Int).toNat).size : Int) then (if ((a1.extract 0 ((mn (a1.size : Int) 60) : Int).toNat).extract 0 bt205.1.size).toList = bt205.1.toList then (if ((Op.bytesLess ((a0.extract 0 ((mn (a0.size : Int) 60) : Int).toNat).toList) bt205.1.toList) = true) then (withylaw05_SepLeast.j0 k (a0.extract 0 ((mn (a0.size : Int) 60) : Int).toNat) (a1.extract 0 ((mn (a1.size : Int) 60) : Int).toNat) bt205.1 (Op.bytesLess ((a1.extract 0 ((mn (a1.size : Int) 60) : Int).toNat).toList) bt205.1.toList)) else (withylaw05_SepLeast.j0 k (a0.extract 0 ((mn (a0.size : Int) 60) : Int).toNat) (a1.extract 0 ((mn (a1.size : Int) 60) : Int).toNat) bt205.1 true)) else (withylaw05_SepLeast.j0 k (a0.extract 0 ((mn (a0.size : Int) 60) : Int).toNat) (a1.extract 0 ((mn (a1.size : Int) 60) : Int).toNat) bt205.1 true)) else (none)) else (none)))) else (withylaw05_SepLeast.j0 k (a0.extract 0 ((mn (a0.size : Int) 60) : Int).toNat) (a1.extract 0 ((mn (a1.size : Int) 60) : Int).toNat) bt205.1 true)) else (if bt205.2 = 1 then (if bt205.1.toList = ([] : List UInt8) then ((withylaw05_fixed.f k).bind fun t207 => (some t207)) else (none)) else (none)))) else (none)) else (none)) else (none)) else (none)) = some r := h
  clear h
  obtain ⟨ji3, hji3⟩ : ∃ j_ : Int, (mn (a0.size : Int) 60) = j_ := ⟨_, rfl⟩
  replace H : (if 0 ≤ (ji3) then (if (ji3) ≤ (a0.size : Int) then (if 0 ≤ (mn (a1.size : Int) 60) then (if (mn (a1.size : Int) 60) ≤ (a1.size : Int) then ((sep_Least.f k (a0.extract 0 ((ji3) : Int).toNat) (a1.extract 0 ((mn (a1.size : Int) 60) : Int).toNat)).bind fun bt205 => (if ((Op.bytesLess ((a0.extract 0 ((ji3) : Int).toNat).toList) ((a1.extract 0 ((mn (a1.size : Int) 60) : Int).toNat).toList)) = true) then (if bt205.2 = 0 then (if (bt205.1.size : Int) < 1 then (withylaw05_SepLeast.j0 k (a0.extract 0 ((ji3) : Int).toNat) (a1.extract 0 ((mn (a1.size : Int) 60) : Int).toNat) bt205.1 true) else (if (bt205.1.size : Int) > ((a1.extract 0 ((mn (a1.size : Int) 60) : Int).toNat).size : Int) then (withylaw05_SepLeast.j0 k (a0.extract 0 ((ji3) : Int).toNat) (a1.extract 0 ((mn (a1.size : Int) 60) : Int).toNat) bt205.1 true) else (if 0 ≤ (bt205.1.size : Int) then (if (bt205.1.size : Int) ≤ ((a1.extract 0 ((mn (a1.size : Int) 60) : Int).toNat).size : Int) then (if ((a1.extract 0 ((mn (a1.size : Int) 60) : Int).toNat).extract 0 bt205.1.size).toList = bt205.1.toList then (if ((Op.bytesLess ((a0.extract 0 ((ji3) : Int).toNat).toList) bt205.1.toList) = true) then (withylaw05_SepLeast.j0 k (a0.extract 0 ((ji3) : Int).toNat) (a1.extract 0 ((mn (a1.size : Int) 60) : Int).toNat) bt205.1 (Op.bytesLess ((a1.extract 0 ((mn (a1.size : Int) 60) : Int).toNat).toList) bt205.1.toList)) else (withylaw05_SepLeast.j0 k (a0.extract 0 ((ji3) : Int).toNat) (a1.extract 0 ((mn (a1.size : Int) 60) : Int).toNat) bt205.1 true)) else (withylaw05_SepLeast.j0 k (a0.extract 0 ((ji3) : Int).toNat) (a1.extract 0 ((mn (a1.size : Int) 60) : Int).toNat) bt205.1 true)) else (none)) else (none)))) else (withylaw05_SepLeast.j0 k (a0.extract 0 ((ji3) : Int).toNat) (a1.extract 0 ((mn (a1.size : Int) 60) : Int).toNat) bt205.1 true)) else (if bt205.2 = 1 then (if bt205.1.toList = ([] : List UInt8) then ((withylaw05_fixed.f k).bind fun t207 => (some t207)) else (none)) else (none)))) else (none)) else (none)) else (none)) else (none)) = some r := by first | (rw [hji3] at H; exact H) | (simp only [hji3] at H ⊢; exact H)
  (try (have hji3h : ji3 ≤ 60 := by (rw [← hji3]; unfold mn; (repeat' split) <;> omega)))
  (try (have hji3g : ji3 ≤ 64 := by omega))
  (try (have hji3l : 0 ≤ ji3 := by (rw [← hji3]; unfold mn; (repeat' split) <;> omega)))
  (try (have hji3m : 0 ≤ ji3 := by omega))
  have hji3_ : (if 60 < (a0.size : Int) then 60 else (a0.size : Int)) = ji3 := hji3
  by_cases c4 : 0 ≤ (ji3)
  · rw [if_pos c4] at H
    have c4b0 := eq_true c4
    have c4b1 : decide (0 ≤ (ji3)) = true := decide_eq_true c4
    clear c4
    by_cases c5 : (ji3) ≤ (a0.size : Int)
    · rw [if_pos c5] at H
      have c5b0 := eq_true c5
      have c5b1 : decide ((ji3) ≤ (a0.size : Int)) = true := decide_eq_true c5
      clear c5
      obtain ⟨js6, hjs6⟩ : ∃ j_ : ByteArray, (a0.extract 0 ((ji3) : Int).toNat) = j_ := ⟨_, rfl⟩
      replace H : (if 0 ≤ (mn (a1.size : Int) 60) then (if (mn (a1.size : Int) 60) ≤ (a1.size : Int) then ((sep_Least.f k (js6) (a1.extract 0 ((mn (a1.size : Int) 60) : Int).toNat)).bind fun bt205 => (if ((Op.bytesLess ((js6).toList) ((a1.extract 0 ((mn (a1.size : Int) 60) : Int).toNat).toList)) = true) then (if bt205.2 = 0 then (if (bt205.1.size : Int) < 1 then (withylaw05_SepLeast.j0 k js6 (a1.extract 0 ((mn (a1.size : Int) 60) : Int).toNat) bt205.1 true) else (if (bt205.1.size : Int) > ((a1.extract 0 ((mn (a1.size : Int) 60) : Int).toNat).size : Int) then (withylaw05_SepLeast.j0 k js6 (a1.extract 0 ((mn (a1.size : Int) 60) : Int).toNat) bt205.1 true) else (if 0 ≤ (bt205.1.size : Int) then (if (bt205.1.size : Int) ≤ ((a1.extract 0 ((mn (a1.size : Int) 60) : Int).toNat).size : Int) then (if ((a1.extract 0 ((mn (a1.size : Int) 60) : Int).toNat).extract 0 bt205.1.size).toList = bt205.1.toList then (if ((Op.bytesLess ((js6).toList) bt205.1.toList) = true) then (withylaw05_SepLeast.j0 k js6 (a1.extract 0 ((mn (a1.size : Int) 60) : Int).toNat) bt205.1 (Op.bytesLess ((a1.extract 0 ((mn (a1.size : Int) 60) : Int).toNat).toList) bt205.1.toList)) else (withylaw05_SepLeast.j0 k js6 (a1.extract 0 ((mn (a1.size : Int) 60) : Int).toNat) bt205.1 true)) else (withylaw05_SepLeast.j0 k js6 (a1.extract 0 ((mn (a1.size : Int) 60) : Int).toNat) bt205.1 true)) else (none)) else (none)))) else (withylaw05_SepLeast.j0 k js6 (a1.extract 0 ((mn (a1.size : Int) 60) : Int).toNat) bt205.1 true)) else (if bt205.2 = 1 then (if bt205.1.toList = ([] : List UInt8) then ((withylaw05_fixed.f k).bind fun t207 => (some t207)) else (none)) else (none)))) else (none)) else (none)) = some r := by first | (rw [hjs6] at H; exact H) | (simp only [hjs6] at H ⊢; exact H)
      obtain ⟨ji7, hji7⟩ : ∃ j_ : Int, (mn (a1.size : Int) 60) = j_ := ⟨_, rfl⟩
      replace H : (if 0 ≤ (ji7) then (if (ji7) ≤ (a1.size : Int) then ((sep_Least.f k (js6) (a1.extract 0 ((ji7) : Int).toNat)).bind fun bt205 => (if ((Op.bytesLess ((js6).toList) ((a1.extract 0 ((ji7) : Int).toNat).toList)) = true) then (if bt205.2 = 0 then (if (bt205.1.size : Int) < 1 then (withylaw05_SepLeast.j0 k js6 (a1.extract 0 ((ji7) : Int).toNat) bt205.1 true) else (if (bt205.1.size : Int) > ((a1.extract 0 ((ji7) : Int).toNat).size : Int) then (withylaw05_SepLeast.j0 k js6 (a1.extract 0 ((ji7) : Int).toNat) bt205.1 true) else (if 0 ≤ (bt205.1.size : Int) then (if (bt205.1.size : Int) ≤ ((a1.extract 0 ((ji7) : Int).toNat).size : Int) then (if ((a1.extract 0 ((ji7) : Int).toNat).extract 0 bt205.1.size).toList = bt205.1.toList then (if ((Op.bytesLess ((js6).toList) bt205.1.toList) = true) then (withylaw05_SepLeast.j0 k js6 (a1.extract 0 ((ji7) : Int).toNat) bt205.1 (Op.bytesLess ((a1.extract 0 ((ji7) : Int).toNat).toList) bt205.1.toList)) else (withylaw05_SepLeast.j0 k js6 (a1.extract 0 ((ji7) : Int).toNat) bt205.1 true)) else (withylaw05_SepLeast.j0 k js6 (a1.extract 0 ((ji7) : Int).toNat) bt205.1 true)) else (none)) else (none)))) else (withylaw05_SepLeast.j0 k js6 (a1.extract 0 ((ji7) : Int).toNat) bt205.1 true)) else (if bt205.2 = 1 then (if bt205.1.toList = ([] : List UInt8) then ((withylaw05_fixed.f k).bind fun t207 => (some t207)) else (none)) else (none)))) else (none)) else (none)) = some r := by first | (rw [hji7] at H; exact H) | (simp only [hji7] at H ⊢; exact H)
      (try (have hji7h : ji7 ≤ 60 := by (rw [← hji7]; unfold mn; (repeat' split) <;> omega)))
      (try (have hji7g : ji7 ≤ 64 := by omega))
      (try (have hji7l : 0 ≤ ji7 := by (rw [← hji7]; unfold mn; (repeat' split) <;> omega)))
      (try (have hji7m : 0 ≤ ji7 := by omega))
      have hji7_ : (if 60 < (a1.size : Int) then 60 else (a1.size : Int)) = ji7 := hji7
      by_cases c8 : 0 ≤ (ji7)
      · rw [if_pos c8] at H
        have c8b0 := eq_true c8
        have c8b1 : decide (0 ≤ (ji7)) = true := decide_eq_true c8
        clear c8
        by_cases c9 : (ji7) ≤ (a1.size : Int)
        · rw [if_pos c9] at H
          have c9b0 := eq_true c9
          have c9b1 : decide ((ji7) ≤ (a1.size : Int)) = true := decide_eq_true c9
          clear c9
          obtain ⟨js10, hjs10⟩ : ∃ j_ : ByteArray, (a1.extract 0 ((ji7) : Int).toNat) = j_ := ⟨_, rfl⟩
          replace H : ((sep_Least.f k (js6) (js10)).bind fun bt205 => (if ((Op.bytesLess ((js6).toList) ((js10).toList)) = true) then (if bt205.2 = 0 then (if (bt205.1.size : Int) < 1 then (withylaw05_SepLeast.j0 k js6 js10 bt205.1 true) else (if (bt205.1.size : Int) > ((js10).size : Int) then (withylaw05_SepLeast.j0 k js6 js10 bt205.1 true) else (if 0 ≤ (bt205.1.size : Int) then (if (bt205.1.size : Int) ≤ ((js10).size : Int) then (if ((js10).extract 0 bt205.1.size).toList = bt205.1.toList then (if ((Op.bytesLess ((js6).toList) bt205.1.toList) = true) then (withylaw05_SepLeast.j0 k js6 js10 bt205.1 (Op.bytesLess ((js10).toList) bt205.1.toList)) else (withylaw05_SepLeast.j0 k js6 js10 bt205.1 true)) else (withylaw05_SepLeast.j0 k js6 js10 bt205.1 true)) else (none)) else (none)))) else (withylaw05_SepLeast.j0 k js6 js10 bt205.1 true)) else (if bt205.2 = 1 then (if bt205.1.toList = ([] : List UInt8) then ((withylaw05_fixed.f k).bind fun t207 => (some t207)) else (none)) else (none)))) = some r := by first | (rw [hjs10] at H; exact H) | (simp only [hjs10] at H ⊢; exact H)
          replace H := Option.bind_eq_some_iff.mp H
          obtain ⟨⟨t205, t206⟩, A110, H⟩ := H
          replace H : (if ((Op.bytesLess ((js6).toList) ((js10).toList)) = true) then (if t206 = 0 then (if (t205.size : Int) < 1 then (withylaw05_SepLeast.j0 k js6 js10 t205 true) else (if (t205.size : Int) > ((js10).size : Int) then (withylaw05_SepLeast.j0 k js6 js10 t205 true) else (if 0 ≤ (t205.size : Int) then (if (t205.size : Int) ≤ ((js10).size : Int) then (if ((js10).extract 0 t205.size).toList = t205.toList then (if ((Op.bytesLess ((js6).toList) t205.toList) = true) then (withylaw05_SepLeast.j0 k js6 js10 t205 (Op.bytesLess ((js10).toList) t205.toList)) else (withylaw05_SepLeast.j0 k js6 js10 t205 true)) else (withylaw05_SepLeast.j0 k js6 js10 t205 true)) else (none)) else (none)))) else (withylaw05_SepLeast.j0 k js6 js10 t205 true)) else (if t206 = 1 then (if t205.toList = ([] : List UInt8) then ((withylaw05_fixed.f k).bind fun t207 => (some t207)) else (none)) else (none))) = some r := H
          have A11 := Aside0.mk A110
          clear A110
          by_cases c12 : ((Op.bytesLess ((js6).toList) ((js10).toList)) = true)
          · rw [if_pos c12] at H
            have c12b0 : (Op.bytesLess ((js6).toList) ((js10).toList)) = true := c12
            clear c12
            have HC13 := Aside0.mk H
            clear H
            go_enter Try.func4, Try.ntmps4
            go_upto_region 6 with (first | ((with_reducible refine gate_callee (f := 10) rfl ?_); refine goesL_ (some 20) rfl rfl Try.func10 (by kernel_rfl) rfl #[.string js6, .string js10] rfl (by (try simp only [List.map_toArray, List.map_cons, List.map_nil]); first | done | rfl | (simp only [List.length_drop, List.length_take]; rfl)) ?_; (with_reducible refine (sep_Least.calls k js6 js10 t205 t206 _ A11.out).mono ?_); rintro e w14 ⟨rfl, hb⟩; refine ⟨_, rfl, ?_⟩; have n0_ := Aside0.mk (below_step (by repeat (first | (with_reducible first | exact HB.out | apply below_alloc | apply pw_below_drewN | apply below_drew1) | exact HB.out)) hb); clear HB; have HB := n0_; clear n0_; (try clear hb); (try clear hb2); (try clear hk); (try clear hi)))
            (try simp only [Act.put, List.setIfInBounds_toArray, List.set_cons_zero, List.set_cons_succ])
            go_cut [66] (fun v66 wc => ∃ (kq : Nat) (x66_12 : Bool), v66 = .bool x66_12 ∧ Aside0 (withylaw05_SepLeast.j0 kq js6 js10 t205 x66_12 = some r) ∧ Aside0 (kq ≤ k) ∧ Aside0 (Below w.heap.size w wc))
            case first =>
              have H := HC13.out
              clear HC13
              by_cases c15 : t206 = 0
              · rw [if_pos c15] at H
                have c15b0 : (t206 == 0) = true := beq_iff_eq.mpr c15
                have c15b1 : (t206 != 0) = false := bne_eq_false_iff_eq.mpr c15
                clear c15
                (first | rw [c15b0] | (simp only [i64_w, i32_w]; rw [c15b0]) | rw [c15b1] | skip)
                by_cases c16 : (t205.size : Int) < 1
                · rw [if_pos c16] at H
                  have c16b0 : decide ((t205.size : Int) < 1) = true := decide_eq_true c16
                  have c16b1 : decide (t205.size < 1) = true := decide_eq_true (by omega)
                  clear c16
                  have H' := Aside0.mk H
                  clear H
                  go_wp2
                  go_meet
                  case rel => exact ⟨_, (true), (by first | rfl | (simp; done) | (simp [*]; done)), H', ⟨by first | omega | exact Nat.le_refl _⟩, ⟨by repeat (first | (with_reducible first | exact HB.out | apply below_alloc | apply pw_below_drewN | apply below_drew1) | exact HB.out)⟩⟩
                · rw [if_neg c16] at H
                  have c16b0 : decide ((t205.size : Int) < 1) = false := decide_eq_false c16
                  have c16b1 : decide (t205.size < 1) = false := decide_eq_false (by omega)
                  clear c16
                  by_cases c17 : (t205.size : Int) > ((js10).size : Int)
                  · rw [if_pos c17] at H
                    have c17b0 : decide (((js10).size : Int) < (t205.size : Int)) = true := decide_eq_true c17
                    have c17b1 : decide ((js10).size < t205.size) = true := decide_eq_true (Int.ofNat_lt.mp c17)
                    clear c17
                    have H' := Aside0.mk H
                    clear H
                    go_wp2
                    go_meet
                    case rel => exact ⟨_, (true), (by first | rfl | (simp; done) | (simp [*]; done)), H', ⟨by first | omega | exact Nat.le_refl _⟩, ⟨by repeat (first | (with_reducible first | exact HB.out | apply below_alloc | apply pw_below_drewN | apply below_drew1) | exact HB.out)⟩⟩
                  · rw [if_neg c17] at H
                    have c17b0 : decide (((js10).size : Int) < (t205.size : Int)) = false := decide_eq_false c17
                    have c17b1 : decide ((js10).size < t205.size) = false := decide_eq_false (fun h => c17 (Int.ofNat_lt.mpr h))
                    clear c17
                    by_cases c18 : 0 ≤ (t205.size : Int)
                    · rw [if_pos c18] at H
                      have c18b0 := eq_true c18
                      have c18b1 : decide (0 ≤ (t205.size : Int)) = true := decide_eq_true c18
                      clear c18
                      by_cases c19 : (t205.size : Int) ≤ ((js10).size : Int)
                      · rw [if_pos c19] at H
                        have c19b0 := eq_true c19
                        have c19b1 : decide ((t205.size : Int) ≤ ((js10).size : Int)) = true := decide_eq_true c19
                        clear c19
                        obtain ⟨js20, hjs20⟩ : ∃ j_ : ByteArray, ((js10).extract 0 t205.size) = j_ := ⟨_, rfl⟩
                        replace H : (if (js20).toList = t205.toList then (if ((Op.bytesLess ((js6).toList) t205.toList) = true) then (withylaw05_SepLeast.j0 k js6 js10 t205 (Op.bytesLess ((js10).toList) t205.toList)) else (withylaw05_SepLeast.j0 k js6 js10 t205 true)) else (withylaw05_SepLeast.j0 k js6 js10 t205 true)) = some r := by first | (rw [hjs20] at H; exact H) | (simp only [hjs20] at H ⊢; exact H)
                        by_cases c21 : (js20).toList = t205.toList
                        · rw [if_pos c21] at H
                          have c21b0 : ((js20).toList == t205.toList) = true := beq_iff_eq.mpr c21
                          have c21b1 : ((js20).toList != t205.toList) = false := bne_eq_false_iff_eq.mpr c21
                          clear c21
                          by_cases c22 : ((Op.bytesLess ((js6).toList) t205.toList) = true)
                          · rw [if_pos c22] at H
                            have c22b0 : (Op.bytesLess ((js6).toList) t205.toList) = true := c22
                            clear c22
                            have H' := Aside0.mk H
                            clear H
                            go_wp2
                            go_meet
                            case rel => exact ⟨_, ((Op.bytesLess ((js10).toList) t205.toList)), (by first | rfl | (simp; done) | (simp only [← hjs10] <;> (first | rfl | simp)) | (simp [*]; done)), H', ⟨by first | omega | exact Nat.le_refl _⟩, ⟨by repeat (first | (with_reducible first | exact HB.out | apply below_alloc | apply pw_below_drewN | apply below_drew1) | exact HB.out)⟩⟩
                          · rw [if_neg c22] at H
                            have c22b0 : (Op.bytesLess ((js6).toList) t205.toList) = false := by simpa using c22
                            clear c22
                            have H' := Aside0.mk H
                            clear H
                            go_wp2
                            go_meet
                            case rel => exact ⟨_, (true), (by first | rfl | (simp; done) | (simp [*]; done)), H', ⟨by first | omega | exact Nat.le_refl _⟩, ⟨by repeat (first | (with_reducible first | exact HB.out | apply below_alloc | apply pw_below_drewN | apply below_drew1) | exact HB.out)⟩⟩
                        · rw [if_neg c21] at H
                          have c21b0 : ((js20).toList == t205.toList) = false := beq_eq_false_iff_ne.mpr c21
                          have c21b1 : ((js20).toList != t205.toList) = true := bne_iff_ne.mpr c21
                          have H' := Aside0.mk H
                          clear H
                          go_wp2
                          go_meet
                          case rel => exact ⟨_, (true), (by first | rfl | (simp; done) | (simp [*]; done)), H', ⟨by first | omega | exact Nat.le_refl _⟩, ⟨by repeat (first | (with_reducible first | exact HB.out | apply below_alloc | apply pw_below_drewN | apply below_drew1) | exact HB.out)⟩⟩
                      · rw [if_neg c19] at H
                        exact absurd H (by simp)
                    · rw [if_neg c18] at H
                      exact absurd H (by simp)
              · rw [if_neg c15] at H
                have c15b0 : (t206 == 0) = false := beq_eq_false_iff_ne.mpr c15
                have c15b1 : (t206 != 0) = true := bne_iff_ne.mpr c15
                (first | rw [c15b0] | (simp only [i64_w, i32_w]; rw [c15b0]) | rw [c15b1] | skip)
                have H' := Aside0.mk H
                clear H
                go_wp2
                go_meet
                case rel => exact ⟨_, (true), (by first | rfl | (simp; done) | (simp [*]; done)), H', ⟨by first | omega | exact Nat.le_refl _⟩, ⟨by repeat (first | (with_reducible first | exact HB.out | apply below_alloc | apply pw_below_drewN | apply below_drew1) | exact HB.out)⟩⟩
            case rest =>
              clear HC13
              try clear c1
              try clear c2
              try clear p2
              try clear c4
              try clear c4b0
              try clear c4b1
              try clear c5
              try clear c5b0
              try clear c5b1
              try clear c8
              try clear c8b0
              try clear c8b1
              try clear c9
              try clear c9b0
              try clear c9b1
              try clear c10
              try clear c12
              try clear c12b0
              try clear c15
              try clear c15b0
              try clear c15b1
              try clear c16
              try clear c16b0
              try clear c16b1
              try clear c17
              try clear c17b0
              try clear c17b1
              try clear c18
              try clear c18b0
              try clear c18b1
              try clear c19
              try clear c19b0
              try clear c19b1
              try clear c21
              try clear c21b0
              try clear c21b1
              try clear c22
              try clear c22b0
              obtain ⟨kq, x66_12, rfl, HA, HJ12, HB⟩ := hcut
              cases kq with
              | zero => exact absurd HA.out (by simp [withylaw05_SepLeast.j0])
              | succ kj12 =>
                have H := HA.out
                clear HA
                simp only [withylaw05_SepLeast.j0] at H
                by_cases c23 : x66_12 = true
                · subst c23
                  have H1 : (none) = some r := by rw [if_pos rfl] at H; exact H
                  clear H
                  have H := H1
                  clear H1
                  exact absurd H (by simp)
                · replace c23 := Bool.eq_false_iff.mpr c23
                  subst c23
                  have H1 : (if 0 ≤ (wrap64 ((t205.size : Int) - 1)) then (if (wrap64 ((t205.size : Int) - 1)) ≤ (t205.size : Int) then (if ((Op.bytesLess js6.toList ((t205.extract 0 ((wrap64 ((t205.size : Int) - 1)) : Int).toNat).toList)) = true) then (none) else ((sep_Common.f kj12 js6 js10).bind fun t208 => (if t208 = (wrap64 ((t205.size : Int) - 1)) then ((sep_Common.f kj12 t205 js10).bind fun t209 => (if t209 = (t205.size : Int) then ((withylaw05_fixed.f kj12).bind fun t210 => (some t210)) else (none))) else (none)))) else (none)) else (none)) = some r := by rw [if_neg (show ¬ (false = true) by decide)] at H; exact H
                  clear H
                  have H := H1
                  clear H1
                  obtain ⟨ji24, hji24⟩ : ∃ j_ : Int, (wrap64 ((t205.size : Int) - 1)) = j_ := ⟨_, rfl⟩
                  replace H : (if 0 ≤ (ji24) then (if (ji24) ≤ (t205.size : Int) then (if ((Op.bytesLess js6.toList ((t205.extract 0 ((ji24) : Int).toNat).toList)) = true) then (none) else ((sep_Common.f kj12 js6 js10).bind fun t208 => (if t208 = (ji24) then ((sep_Common.f kj12 t205 js10).bind fun t209 => (if t209 = (t205.size : Int) then ((withylaw05_fixed.f kj12).bind fun t210 => (some t210)) else (none))) else (none)))) else (none)) else (none)) = some r := by first | (rw [hji24] at H; exact H) | (simp only [hji24] at H ⊢; exact H)
                  have hji24w : (IntKind.i64.wrap ((t205.size : Int) - 1)) = ji24 := (i64_w _).trans hji24
                  by_cases c25 : 0 ≤ (ji24)
                  · rw [if_pos c25] at H
                    have c25b0 := eq_true c25
                    have c25b1 : decide (0 ≤ (ji24)) = true := decide_eq_true c25
                    clear c25
                    by_cases c26 : (ji24) ≤ (t205.size : Int)
                    · rw [if_pos c26] at H
                      have c26b0 := eq_true c26
                      have c26b1 : decide ((ji24) ≤ (t205.size : Int)) = true := decide_eq_true c26
                      clear c26
                      obtain ⟨js27, hjs27⟩ : ∃ j_ : ByteArray, (t205.extract 0 ((ji24) : Int).toNat) = j_ := ⟨_, rfl⟩
                      replace H : (if ((Op.bytesLess js6.toList ((js27).toList)) = true) then (none) else ((sep_Common.f kj12 js6 js10).bind fun t208 => (if t208 = (ji24) then ((sep_Common.f kj12 t205 js10).bind fun t209 => (if t209 = (t205.size : Int) then ((withylaw05_fixed.f kj12).bind fun t210 => (some t210)) else (none))) else (none)))) = some r := by first | (rw [hjs27] at H; exact H) | (simp only [hjs27] at H ⊢; exact H)
                      by_cases c28 : ((Op.bytesLess js6.toList ((js27).toList)) = true)
                      · rw [if_pos c28] at H
                        exact absurd H (by simp)
                      · rw [if_neg c28] at H
                        have c28b0 : (Op.bytesLess js6.toList ((js27).toList)) = false := by simpa using c28
                        clear c28
                        replace H := Option.bind_eq_some_iff.mp H
                        obtain ⟨t208, A290, H⟩ := H
                        replace H : (if t208 = (ji24) then ((sep_Common.f kj12 t205 js10).bind fun t209 => (if t209 = (t205.size : Int) then ((withylaw05_fixed.f kj12).bind fun t210 => (some t210)) else (none))) else (none)) = some r := H
                        have A29 := Aside0.mk A290
                        clear A290
                        by_cases c30 : t208 = (ji24)
                        · rw [if_pos c30] at H
                          have c30b0 : (t208 == (ji24)) = true := beq_iff_eq.mpr c30
                          have c30b1 : (t208 != (ji24)) = false := bne_eq_false_iff_eq.mpr c30
                          clear c30
                          replace H := Option.bind_eq_some_iff.mp H
                          obtain ⟨t209, A310, H⟩ := H
                          replace H : (if t209 = (t205.size : Int) then ((withylaw05_fixed.f kj12).bind fun t210 => (some t210)) else (none)) = some r := H
                          have A31 := Aside0.mk A310
                          clear A310
                          by_cases c32 : t209 = (t205.size : Int)
                          · rw [if_pos c32] at H
                            have c32b0 : (t209 == (t205.size : Int)) = true := beq_iff_eq.mpr c32
                            have c32b1 : (t209 != (t205.size : Int)) = false := bne_eq_false_iff_eq.mpr c32
                            clear c32
                            replace H := Option.bind_eq_some_iff.mp H
                            obtain ⟨t210, A330, H⟩ := H
                            replace H : (some t210) = some r := H
                            have A33 := Aside0.mk A330
                            clear A330
                            obtain rfl := Option.some.inj H
                            go_wp2_with (first | (go_at_call 14; (with_reducible refine (sep_Common.calls kj12 js6 js10 t208 _ A29.out).mono ?_); rintro e w34 ⟨rfl, hb⟩; have n0_ := Aside0.mk (below_step (by repeat (first | (with_reducible first | exact HB.out | apply below_alloc | apply pw_below_drewN | apply below_drew1) | exact HB.out)) hb); clear HB; have HB := n0_; clear n0_; (try clear hb); (try clear hb2); (try clear hk); (try clear hi)) | (go_at_call 14; (with_reducible refine (sep_Common.calls kj12 t205 js10 t209 _ A31.out).mono ?_); rintro e w35 ⟨rfl, hb⟩; have n0_ := Aside0.mk (below_step (by repeat (first | (with_reducible first | exact HB.out | apply below_alloc | apply pw_below_drewN | apply below_drew1) | exact HB.out)) hb); clear HB; have HB := n0_; clear n0_; (try clear hb); (try clear hb2); (try clear hk); (try clear hi)) | (go_at_call 20; (with_reducible refine (withylaw05_fixed.calls kj12  t210 _ A33.out).mono ?_); rintro e w36 ⟨rfl, hb⟩; have n0_ := Aside0.mk (below_step (by repeat (first | (with_reducible first | exact HB.out | apply below_alloc | apply pw_below_drewN | apply below_drew1) | exact HB.out)) hb); clear HB; have HB := n0_; clear n0_; (try clear hb); (try clear hb2); (try clear hk); (try clear hi)))
                            go_ret
                            exact ⟨by first | rfl | (simp [errW_none, errW_some] <;> rfl) | (simp only [← hji3, ← hjs6, ← hji7, ← hjs10, ← hji24, ← hjs27]; first | rfl | (simp [errW_none, errW_some] <;> rfl)) | (simp [*, errW_none, errW_some] <;> rfl), by repeat (first | (with_reducible first | exact HB.out | apply below_alloc | apply pw_below_drewN | apply below_drew1) | exact HB.out)⟩
                          · rw [if_neg c32] at H
                            exact absurd H (by simp)
                        · rw [if_neg c30] at H
                          exact absurd H (by simp)
                    · rw [if_neg c26] at H
                      exact absurd H (by simp)
                  · rw [if_neg c25] at H
                    exact absurd H (by simp)
          · rw [if_neg c12] at H
            have c12b0 : (Op.bytesLess ((js6).toList) ((js10).toList)) = false := by simpa using c12
            clear c12
            by_cases c37 : t206 = 1
            · rw [if_pos c37] at H
              have c37b0 : (t206 == 1) = true := beq_iff_eq.mpr c37
              have c37b1 : (t206 != 1) = false := bne_eq_false_iff_eq.mpr c37
              clear c37
              by_cases c38 : t205.toList = ([] : List UInt8)
              · rw [if_pos c38] at H
                have c38b0 : (t205.toList == ([] : List UInt8)) = true := beq_iff_eq.mpr c38
                have c38b1 : (t205.toList != ([] : List UInt8)) = false := bne_eq_false_iff_eq.mpr c38
                clear c38
                replace H := Option.bind_eq_some_iff.mp H
                obtain ⟨t207, A390, H⟩ := H
                replace H : (some t207) = some r := H
                have A39 := Aside0.mk A390
                clear A390
                obtain rfl := Option.some.inj H
                go_enter Try.func4, Try.ntmps4
                go_wp2_with (first | ((with_reducible refine gate_callee (f := 10) rfl ?_); refine goesL_ (some 20) rfl rfl Try.func10 (by kernel_rfl) rfl #[.string js6, .string js10] rfl (by (try simp only [List.map_toArray, List.map_cons, List.map_nil]); first | done | rfl | (simp only [List.length_drop, List.length_take]; rfl)) ?_; (with_reducible refine (sep_Least.calls k js6 js10 t205 t206 _ A11.out).mono ?_); rintro e w40 ⟨rfl, hb⟩; refine ⟨_, rfl, ?_⟩; have n0_ := Aside0.mk (below_step (by repeat (first | (with_reducible first | exact HB.out | apply below_alloc | apply pw_below_drewN | apply below_drew1) | exact HB.out)) hb); clear HB; have HB := n0_; clear n0_; (try clear hb); (try clear hb2); (try clear hk); (try clear hi)) | (go_at_call 20; (with_reducible refine (withylaw05_fixed.calls k  t207 _ A39.out).mono ?_); rintro e w41 ⟨rfl, hb⟩; have n0_ := Aside0.mk (below_step (by repeat (first | (with_reducible first | exact HB.out | apply below_alloc | apply pw_below_drewN | apply below_drew1) | exact HB.out)) hb); clear HB; have HB := n0_; clear n0_; (try clear hb); (try clear hb2); (try clear hk); (try clear hi)))
                go_ret
                exact ⟨by first | rfl | (simp [errW_none, errW_some] <;> rfl) | (simp only [← hji3, ← hjs6, ← hji7, ← hjs10]; first | rfl | (simp [errW_none, errW_some] <;> rfl)) | (simp [*, errW_none, errW_some] <;> rfl), by repeat (first | (with_reducible first | exact HB.out | apply below_alloc | apply pw_below_drewN | apply below_drew1) | exact HB.out)⟩
              · rw [if_neg c38] at H
                exact absurd H (by simp)
            · rw [if_neg c37] at H
              exact absurd H (by simp)
        · rw [if_neg c9] at H
          exact absurd H (by simp)
      · rw [if_neg c8] at H
        exact absurd H (by simp)
    · rw [if_neg c5] at H
      exact absurd H (by simp)
  · rw [if_neg c4] at H
    exact absurd H (by simp)

end Go.Proofs.Ythflaiogollleaa.P
