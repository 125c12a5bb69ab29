/- What is proved here: for functions of the Go text, a Lean function each, and that the call comes to just what it answers. Conditions: as each contract names them. Written by wip/tools/myprint.py, a driver of the print of the kit. -/
import Derived.Test.YthflaiogollleaaP0
import Derived.Test.YthflaiogollleaaP1
import Derived.Test.YthflaiogollleaaP2
import Derived.Test.YthflaiogollleaaP3
import Derived.Test.YthflaiogollleaaP4
import Derived.Test.YthflaiogollleaaP5
import Derived.Test.YthflaiogollleaaP6
namespace Go.Proofs.Ythflaiogollleaa.P
open Go.RowKit Go.Proofs.YthflaiogollleaaW.PrintWords Go.Proofs.YthflaiogollleaaW.PrintLast Go.Proofs.YthflaiogollleaaW.PrintMore
attribute [local go_sem] max2_int min2_int max_two min_two max_three min_three max_four min_four Go.Proofs.YthflaiogollleaaLaws.str_leq Go.Proofs.YthflaiogollleaaLaws.str_gtr Go.Proofs.YthflaiogollleaaLaws.str_geq Go.Proofs.YthflaiogollleaaLaws.max2_str Go.Proofs.YthflaiogollleaaLaws.min2_str   -- for this text's walks alone
set_option linter.unusedVariables false
set_option linter.unusedSimpArgs false

/-! ### withylaw05_SepTells: function 3 -/
def withylaw05_SepTells.j0 : Nat → ByteArray → ByteArray → List ByteArray → ByteArray → Int → ByteArray → Int → ByteArray → List ByteArray → ByteArray → List ByteArray → ByteArray → Option (Bool)
  | 0, _, _, _, _, _, _, _, _, _, _, _, _ => none
  | k + 1, x0, x1, x2, x7, x8, x9, x10, x11, x12, x13, x14, x15 => (sep_Common.f k x0 x1).bind fun t195 => ((withyref05_Common.f k x0 x1).bind fun t196 => (if t195 = t196 then ((sep_Span.f k x2).bind fun t197 => ((withyref05_Span.f k x2).bind fun t198 => (if t197 = t198 then (if x7.toList = x9.toList then (if x8 = x10 then (if x11.toList = x13.toList then ((withyref01_Words.f k x12 x14).bind fun t199 => (if t199 = true then ((sep_Between.f x15 x0 x1 true).bind fun t200 => (if ((Op.bytesLess x15.toList x0.toList) = true) then (if (t200 == false) = true then ((sep_Between.f x15 x0 x1 false).bind fun t201 => (if (t201 == (!(Op.bytesLess x15.toList x0.toList))) = true then ((withylaw05_fixed.f k).bind fun t202 => (some t202)) else (none))) else (none)) else (if (t200 == (Op.bytesLess x15.toList x1.toList)) = true then ((sep_Between.f x15 x0 x1 false).bind fun t203 => (if (t203 == (!(Op.bytesLess x15.toList x0.toList))) = true then ((withylaw05_fixed.f k).bind fun t204 => (some t204)) else (none))) else (none)))) else (none))) else (none)) else (none)) else (none)) else (none)))) else (none)))
def withylaw05_SepTells.f (k : Nat) (a0 : ByteArray) (a1 : ByteArray) (l2 : List ByteArray) : Option (Bool) := if 0 ≤ (mn (a0.size : Int) 60) then (if (mn (a0.size : Int) 60) ≤ (a0.size : Int) then (if 0 ≤ (mn (a1.size : Int) 60) then (if (mn (a1.size : Int) 60) ≤ (a1.size : Int) then ((withylaw05_Cut.f k l2).bind fun t179 => ((sep_Least.f k (a0.extract 0 ((mn (a0.size : Int) 60) : Int).toNat) (a1.extract 0 ((mn (a1.size : Int) 60) : Int).toNat)).bind fun bt182 => ((withyref05_Least.f k (a0.extract 0 ((mn (a0.size : Int) 60) : Int).toNat) (a1.extract 0 ((mn (a1.size : Int) 60) : Int).toNat)).bind fun bt184 => ((sep_Strip.f k t179).bind fun bt186 => ((withyref05_Strip.f k t179).bind fun bt190 => (if (t179.length : Int) > 0 then (if 0 < (t179.length : Int) then (withylaw05_SepTells.j0 k (a0.extract 0 ((mn (a0.size : Int) 60) : Int).toNat) (a1.extract 0 ((mn (a1.size : Int) 60) : Int).toNat) t179 bt182.1 bt182.2 bt184.1 bt184.2 bt186.1 bt186.2 bt190.1 bt190.2 (rdOf ByteArray.empty t179 0)) else (none)) else (withylaw05_SepTells.j0 k (a0.extract 0 ((mn (a0.size : Int) 60) : Int).toNat) (a1.extract 0 ((mn (a1.size : Int) 60) : Int).toNat) t179 bt182.1 bt182.2 bt184.1 bt184.2 bt186.1 bt186.2 bt190.1 bt190.2 (⟨#[]⟩ : ByteArray)))))))) else (none)) else (none)) else (none)) else (none)
theorem withylaw05_SepTells.mono_l : ∀ k, (∀ y0 y1 y2 y3 y4 y5 y6 y7 y8 y9 y10 y11, LeO (withylaw05_SepTells.j0 k y0 y1 y2 y3 y4 y5 y6 y7 y8 y9 y10 y11) (withylaw05_SepTells.j0 (k + 1) y0 y1 y2 y3 y4 y5 y6 y7 y8 y9 y10 y11))
  | 0 => fun _ _ _ _ _ _ _ _ _ _ _ _ r h => by simp [withylaw05_SepTells.j0] at h
  | k + 1 => by
    have ih0 := withylaw05_SepTells.mono_l k
    · intro y0 y1 y2 y3 y4 y5 y6 y7 y8 y9 y10 y11
      unfold withylaw05_SepTells.j0
      repeat' first
      | (with_reducible exact ih0 _ _ _ _ _ _ _ _ _ _ _ _)
      | (with_reducible exact sep_Common.mono _ _ _)
      | (with_reducible exact sep_Least.mono _ _ _)
      | (with_reducible exact sep_Span.mono _ _)
      | (with_reducible exact sep_Strip.mono _ _)
      | (with_reducible exact withylaw05_Cut.mono _ _)
      | (with_reducible exact withylaw05_fixed.mono _)
      | (with_reducible exact withyref01_Words.mono _ _ _)
      | (with_reducible exact withyref05_Common.mono _ _ _)
      | (with_reducible exact withyref05_Least.mono _ _ _)
      | (with_reducible exact withyref05_Span.mono _ _)
      | (with_reducible exact withyref05_Strip.mono _ _)
      | (with_reducible exact LeO.refl _)
      | (with_reducible exact LeO.none _)
      | (with_reducible refine LeO.ite ?_ ?_)
      | (with_reducible refine LeO.bind ?_ (fun _ => ?_))
      | exact ih0 _ _ _ _ _ _ _ _ _ _ _ _
      | exact sep_Common.mono _ _ _
      | exact sep_Least.mono _ _ _
      | exact sep_Span.mono _ _
      | exact sep_Strip.mono _ _
      | exact withylaw05_Cut.mono _ _
      | exact withylaw05_fixed.mono _
      | exact withyref01_Words.mono _ _ _
      | exact withyref05_Common.mono _ _ _
      | exact withyref05_Least.mono _ _ _
      | exact withyref05_Span.mono _ _
      | exact withyref05_Strip.mono _ _
      | exact LeO.none _
      | refine LeO.ite ?_ ?_
      | refine LeO.bind ?_ (fun _ => ?_)
theorem withylaw05_SepTells.mono : ∀ a0 a1 a2 k, LeO (withylaw05_SepTells.f k a0 a1 a2) (withylaw05_SepTells.f (k + 1) a0 a1 a2) := by
  intro a0 a1 a2 k
  have ih0 := withylaw05_SepTells.mono_l k
  unfold withylaw05_SepTells.f
  repeat' first
      | (with_reducible exact ih0 _ _ _ _ _ _ _ _ _ _ _ _)
      | (with_reducible exact sep_Common.mono _ _ _)
      | (with_reducible exact sep_Least.mono _ _ _)
      | (with_reducible exact sep_Span.mono _ _)
      | (with_reducible exact sep_Strip.mono _ _)
      | (with_reducible exact withylaw05_Cut.mono _ _)
      | (with_reducible exact withylaw05_fixed.mono _)
      | (with_reducible exact withyref01_Words.mono _ _ _)
      | (with_reducible exact withyref05_Common.mono _ _ _)
      | (with_reducible exact withyref05_Least.mono _ _ _)
      | (with_reducible exact withyref05_Span.mono _ _)
      | (with_reducible exact withyref05_Strip.mono _ _)
      | (with_reducible exact LeO.refl _)
      | (with_reducible exact LeO.none _)
      | (with_reducible refine LeO.ite ?_ ?_)
      | (with_reducible refine LeO.bind ?_ (fun _ => ?_))
      | exact ih0 _ _ _ _ _ _ _ _ _ _ _ _
      | exact sep_Common.mono _ _ _
      | exact sep_Least.mono _ _ _
      | exact sep_Span.mono _ _
      | exact sep_Strip.mono _ _
      | exact withylaw05_Cut.mono _ _
      | exact withylaw05_fixed.mono _
      | exact withyref01_Words.mono _ _ _
      | exact withyref05_Common.mono _ _ _
      | exact withyref05_Least.mono _ _ _
      | exact withyref05_Span.mono _ _
      | exact withyref05_Strip.mono _ _
      | exact LeO.none _
      | refine LeO.ite ?_ ?_
      | refine LeO.bind ?_ (fun _ => ?_)
set_option maxHeartbeats 8000000 in
set_option maxRecDepth 100000 in
theorem withylaw05_SepTells.calls (k : Nat) (a0 : ByteArray) (a1 : ByteArray) (A2 : Option Addr) (c2 : Nat) (l2 : List ByteArray) (r : Bool) (w : World) (hr2 : Kd.C Kd.string w A2 l2.length l2) (hc2 : l2.length ≤ c2) (h : withylaw05_SepTells.f k a0 a1 l2 = some r) :
    Calls Try.prog 3 #[.string a0, .string a1, .slice A2 l2.length c2] w fun e w' => e = .returned (.bool r) ∧ Below w.heap.size w w' := by
  have HR2 := Aside0.mk hr2
  have HC2 := Aside0.mk hc2
  clear hr2 hc2
  have HB := Aside0.mk (Below.refl w.heap.size w)
  have H : (if 0 ≤ (mn (a0.size : Int) 60) then (if (mn (a0.size : Int) 60) ≤ (a0.size : Int) then (if 0 ≤ (mn (a1.size : Int) 60) then (if (mn (a1.size : Int) 60) ≤ (a1.size : Int) then ((withylaw05_Cut.f k l2).bind fun t179 => ((sep_Least.f k (a0.extract 0 ((mn (a0.size : Int) 60) : Int).toNat) (a1.extract 0 ((mn (a1.size : Int) 60) : Int).toNat)).bind fun bt182 => ((withyref05_Least.f k (a0.extract 0 ((mn (a0.size : Int) 60) : Int).toNat) (a1.extract 0 ((mn (a1.size : Int) 60) : Int).toNat)).bind fun bt184 => ((sep_Strip.f k t179).bind fun bt186 => ((withyref05_Strip.f k t179).bind fun bt190 => (if (t179.length : Int) > 0 then (if 0 < (t179.length : Int) then (withylaw05_SepTells.j0 k (a0.extract 0 ((mn (a0.size : Int) 60) : Int).toNat) (a1.extract 0 ((mn (a1.size : Int) 60) : Int).toNat) t179 bt182.1 bt182.2 bt184.1 bt184.2 bt186.1 bt186.2 bt190.1 bt190.2 (rdOf ByteArray.empty t179 0)) else (none)) else (withylaw05_SepTells.j0 k (a0.extract 0 ((mn (a0.size : Int) 60) : Int).toNat) (a1.extract 0 ((mn (a1.size : Int) 60) : Int).toNat) t179 bt182.1 bt182.2 bt184.1 bt184.2 bt186.1 bt186.2 bt190.1 bt190.2 (⟨#[]⟩ : ByteArray)))))))) else (none)) else (none)) else (none)) else (none)) = some r := h
  clear h
  obtain ⟨ji4, hji4⟩ : ∃ j_ : Int, (mn (a0.size : Int) 60) = j_ := ⟨_, rfl⟩
  replace H : (if 0 ≤ (ji4) then (if (ji4) ≤ (a0.size : Int) then (if 0 ≤ (mn (a1.size : Int) 60) then (if (mn (a1.size : Int) 60) ≤ (a1.size : Int) then ((withylaw05_Cut.f k l2).bind fun t179 => ((sep_Least.f k (a0.extract 0 ((ji4) : Int).toNat) (a1.extract 0 ((mn (a1.size : Int) 60) : Int).toNat)).bind fun bt182 => ((withyref05_Least.f k (a0.extract 0 ((ji4) : Int).toNat) (a1.extract 0 ((mn (a1.size : Int) 60) : Int).toNat)).bind fun bt184 => ((sep_Strip.f k t179).bind fun bt186 => ((withyref05_Strip.f k t179).bind fun bt190 => (if (t179.length : Int) > 0 then (if 0 < (t179.length : Int) then (withylaw05_SepTells.j0 k (a0.extract 0 ((ji4) : Int).toNat) (a1.extract 0 ((mn (a1.size : Int) 60) : Int).toNat) t179 bt182.1 bt182.2 bt184.1 bt184.2 bt186.1 bt186.2 bt190.1 bt190.2 (rdOf ByteArray.empty t179 0)) else (none)) else (withylaw05_SepTells.j0 k (a0.extract 0 ((ji4) : Int).toNat) (a1.extract 0 ((mn (a1.size : Int) 60) : Int).toNat) t179 bt182.1 bt182.2 bt184.1 bt184.2 bt186.1 bt186.2 bt190.1 bt190.2 (⟨#[]⟩ : ByteArray)))))))) else (none)) else (none)) else (none)) else (none)) = some r := by first | (rw [hji4] at H; exact H) | (simp only [hji4] at H ⊢; exact H)
  (try (have hji4h : ji4 ≤ 60 := by (rw [← hji4]; unfold mn; (repeat' split) <;> omega)))
  (try (have hji4g : ji4 ≤ 64 := by omega))
  (try (have hji4l : 0 ≤ ji4 := by (rw [← hji4]; unfold mn; (repeat' split) <;> omega)))
  (try (have hji4m : 0 ≤ ji4 := by omega))
  have hji4_ : (if 60 < (a0.size : Int) then 60 else (a0.size : Int)) = ji4 := hji4
  by_cases c5 : 0 ≤ (ji4)
  · rw [if_pos c5] at H
    have c5b0 := eq_true c5
    have c5b1 : decide (0 ≤ (ji4)) = true := decide_eq_true c5
    clear c5
    by_cases c6 : (ji4) ≤ (a0.size : Int)
    · rw [if_pos c6] at H
      have c6b0 := eq_true c6
      have c6b1 : decide ((ji4) ≤ (a0.size : Int)) = true := decide_eq_true c6
      clear c6
      obtain ⟨js7, hjs7⟩ : ∃ j_ : ByteArray, (a0.extract 0 ((ji4) : Int).toNat) = j_ := ⟨_, rfl⟩
      replace H : (if 0 ≤ (mn (a1.size : Int) 60) then (if (mn (a1.size : Int) 60) ≤ (a1.size : Int) then ((withylaw05_Cut.f k l2).bind fun t179 => ((sep_Least.f k (js7) (a1.extract 0 ((mn (a1.size : Int) 60) : Int).toNat)).bind fun bt182 => ((withyref05_Least.f k (js7) (a1.extract 0 ((mn (a1.size : Int) 60) : Int).toNat)).bind fun bt184 => ((sep_Strip.f k t179).bind fun bt186 => ((withyref05_Strip.f k t179).bind fun bt190 => (if (t179.length : Int) > 0 then (if 0 < (t179.length : Int) then (withylaw05_SepTells.j0 k js7 (a1.extract 0 ((mn (a1.size : Int) 60) : Int).toNat) t179 bt182.1 bt182.2 bt184.1 bt184.2 bt186.1 bt186.2 bt190.1 bt190.2 (rdOf ByteArray.empty t179 0)) else (none)) else (withylaw05_SepTells.j0 k js7 (a1.extract 0 ((mn (a1.size : Int) 60) : Int).toNat) t179 bt182.1 bt182.2 bt184.1 bt184.2 bt186.1 bt186.2 bt190.1 bt190.2 (⟨#[]⟩ : ByteArray)))))))) else (none)) else (none)) = some r := by first | (rw [hjs7] at H; exact H) | (simp only [hjs7] at H ⊢; exact H)
      obtain ⟨ji8, hji8⟩ : ∃ j_ : Int, (mn (a1.size : Int) 60) = j_ := ⟨_, rfl⟩
      replace H : (if 0 ≤ (ji8) then (if (ji8) ≤ (a1.size : Int) then ((withylaw05_Cut.f k l2).bind fun t179 => ((sep_Least.f k (js7) (a1.extract 0 ((ji8) : Int).toNat)).bind fun bt182 => ((withyref05_Least.f k (js7) (a1.extract 0 ((ji8) : Int).toNat)).bind fun bt184 => ((sep_Strip.f k t179).bind fun bt186 => ((withyref05_Strip.f k t179).bind fun bt190 => (if (t179.length : Int) > 0 then (if 0 < (t179.length : Int) then (withylaw05_SepTells.j0 k js7 (a1.extract 0 ((ji8) : Int).toNat) t179 bt182.1 bt182.2 bt184.1 bt184.2 bt186.1 bt186.2 bt190.1 bt190.2 (rdOf ByteArray.empty t179 0)) else (none)) else (withylaw05_SepTells.j0 k js7 (a1.extract 0 ((ji8) : Int).toNat) t179 bt182.1 bt182.2 bt184.1 bt184.2 bt186.1 bt186.2 bt190.1 bt190.2 (⟨#[]⟩ : ByteArray)))))))) else (none)) else (none)) = some r := by first | (rw [hji8] at H; exact H) | (simp only [hji8] at H ⊢; exact H)
      (try (have hji8h : ji8 ≤ 60 := by (rw [← hji8]; unfold mn; (repeat' split) <;> omega)))
      (try (have hji8g : ji8 ≤ 64 := by omega))
      (try (have hji8l : 0 ≤ ji8 := by (rw [← hji8]; unfold mn; (repeat' split) <;> omega)))
      (try (have hji8m : 0 ≤ ji8 := by omega))
      have hji8_ : (if 60 < (a1.size : Int) then 60 else (a1.size : Int)) = ji8 := hji8
      by_cases c9 : 0 ≤ (ji8)
      · rw [if_pos c9] at H
        have c9b0 := eq_true c9
        have c9b1 : decide (0 ≤ (ji8)) = true := decide_eq_true c9
        clear c9
        by_cases c10 : (ji8) ≤ (a1.size : Int)
        · rw [if_pos c10] at H
          have c10b0 := eq_true c10
          have c10b1 : decide ((ji8) ≤ (a1.size : Int)) = true := decide_eq_true c10
          clear c10
          obtain ⟨js11, hjs11⟩ : ∃ j_ : ByteArray, (a1.extract 0 ((ji8) : Int).toNat) = j_ := ⟨_, rfl⟩
          replace H : ((withylaw05_Cut.f k l2).bind fun t179 => ((sep_Least.f k (js7) (js11)).bind fun bt182 => ((withyref05_Least.f k (js7) (js11)).bind fun bt184 => ((sep_Strip.f k t179).bind fun bt186 => ((withyref05_Strip.f k t179).bind fun bt190 => (if (t179.length : Int) > 0 then (if 0 < (t179.length : Int) then (withylaw05_SepTells.j0 k js7 js11 t179 bt182.1 bt182.2 bt184.1 bt184.2 bt186.1 bt186.2 bt190.1 bt190.2 (rdOf ByteArray.empty t179 0)) else (none)) else (withylaw05_SepTells.j0 k js7 js11 t179 bt182.1 bt182.2 bt184.1 bt184.2 bt186.1 bt186.2 bt190.1 bt190.2 (⟨#[]⟩ : ByteArray)))))))) = some r := by first | (rw [hjs11] at H; exact H) | (simp only [hjs11] at H ⊢; exact H)
          replace H := Option.bind_eq_some_iff.mp H
          obtain ⟨t179, A120, H⟩ := H
          replace H : ((sep_Least.f k (js7) (js11)).bind fun bt182 => ((withyref05_Least.f k (js7) (js11)).bind fun bt184 => ((sep_Strip.f k t179).bind fun bt186 => ((withyref05_Strip.f k t179).bind fun bt190 => (if (t179.length : Int) > 0 then (if 0 < (t179.length : Int) then (withylaw05_SepTells.j0 k js7 js11 t179 bt182.1 bt182.2 bt184.1 bt184.2 bt186.1 bt186.2 bt190.1 bt190.2 (rdOf ByteArray.empty t179 0)) else (none)) else (withylaw05_SepTells.j0 k js7 js11 t179 bt182.1 bt182.2 bt184.1 bt184.2 bt186.1 bt186.2 bt190.1 bt190.2 (⟨#[]⟩ : ByteArray))))))) = some r := H
          have A12 := Aside0.mk A120
          clear A120
          replace H := Option.bind_eq_some_iff.mp H
          obtain ⟨⟨t182, t183⟩, A130, H⟩ := H
          replace H : ((withyref05_Least.f k (js7) (js11)).bind fun bt184 => ((sep_Strip.f k t179).bind fun bt186 => ((withyref05_Strip.f k t179).bind fun bt190 => (if (t179.length : Int) > 0 then (if 0 < (t179.length : Int) then (withylaw05_SepTells.j0 k js7 js11 t179 t182 t183 bt184.1 bt184.2 bt186.1 bt186.2 bt190.1 bt190.2 (rdOf ByteArray.empty t179 0)) else (none)) else (withylaw05_SepTells.j0 k js7 js11 t179 t182 t183 bt184.1 bt184.2 bt186.1 bt186.2 bt190.1 bt190.2 (⟨#[]⟩ : ByteArray)))))) = some r := H
          have A13 := Aside0.mk A130
          clear A130
          replace H := Option.bind_eq_some_iff.mp H
          obtain ⟨⟨t184, t185⟩, A140, H⟩ := H
          replace H : ((sep_Strip.f k t179).bind fun bt186 => ((withyref05_Strip.f k t179).bind fun bt190 => (if (t179.length : Int) > 0 then (if 0 < (t179.length : Int) then (withylaw05_SepTells.j0 k js7 js11 t179 t182 t183 t184 t185 bt186.1 bt186.2 bt190.1 bt190.2 (rdOf ByteArray.empty t179 0)) else (none)) else (withylaw05_SepTells.j0 k js7 js11 t179 t182 t183 t184 t185 bt186.1 bt186.2 bt190.1 bt190.2 (⟨#[]⟩ : ByteArray))))) = some r := H
          have A14 := Aside0.mk A140
          clear A140
          replace H := Option.bind_eq_some_iff.mp H
          obtain ⟨⟨t186, t187⟩, A150, H⟩ := H
          replace H : ((withyref05_Strip.f k t179).bind fun bt190 => (if (t179.length : Int) > 0 then (if 0 < (t179.length : Int) then (withylaw05_SepTells.j0 k js7 js11 t179 t182 t183 t184 t185 t186 t187 bt190.1 bt190.2 (rdOf ByteArray.empty t179 0)) else (none)) else (withylaw05_SepTells.j0 k js7 js11 t179 t182 t183 t184 t185 t186 t187 bt190.1 bt190.2 (⟨#[]⟩ : ByteArray)))) = some r := H
          have A15 := Aside0.mk A150
          clear A150
          replace H := Option.bind_eq_some_iff.mp H
          obtain ⟨⟨t190, t191⟩, A160, H⟩ := H
          replace H : (if (t179.length : Int) > 0 then (if 0 < (t179.length : Int) then (withylaw05_SepTells.j0 k js7 js11 t179 t182 t183 t184 t185 t186 t187 t190 t191 (rdOf ByteArray.empty t179 0)) else (none)) else (withylaw05_SepTells.j0 k js7 js11 t179 t182 t183 t184 t185 t186 t187 t190 t191 (⟨#[]⟩ : ByteArray))) = some r := H
          have A16 := Aside0.mk A160
          clear A160
          have HC17 := Aside0.mk H
          clear H
          go_enter Try.func3, Try.ntmps3
          (try simp only [List.append_eq, List.cons_append, List.nil_append])
          go_upto_if 52 with (first | ((with_reducible refine gate_callee (f := 9) rfl ?_); refine goesL_ (some 27) rfl rfl Try.func9 (by kernel_rfl) rfl #[.slice A2 l2.length c2] rfl (by (try simp only [List.map_toArray, List.map_cons, List.map_nil]); first | done | rfl | (simp only [List.length_drop, List.length_take]; rfl)) ?_; (with_reducible refine (withylaw05_Cut.calls k _ _ l2 t179 _ ?side1 ?side2 A12.out).mono ?_); (case side1 => repeat (first | exact HR2.out | (with_reducible refine Kd.C_alloc ?_ _) | (with_reducible refine Kd.C_drewN ?_ _) | (with_reducible refine Kd.C_drew ?_))); (case side2 => exact HC2.out); rintro e w18 ⟨v180, rfl, ho0, hb⟩; refine ⟨_, rfl, ?_⟩; have n0_ := Aside0.mk (Kd.R_lower ho0 (below_size (by repeat (first | (with_reducible first | exact HB.out | apply below_alloc | apply pw_below_drewN | apply below_drew1) | exact HB.out)))); have n1_ := Aside0.mk (below_step (by repeat (first | (with_reducible first | exact HB.out | apply below_alloc | apply pw_below_drewN | apply below_drew1) | exact HB.out)) hb); clear HB; have HO181 := n0_; have HB := n1_; clear n0_ n1_; (try clear hb); (try clear hb2); (try clear hk); (try clear hi); (try clear ho0)) | ((with_reducible refine gate_callee (f := 10) rfl ?_); refine goesL_ (some 31) rfl rfl Try.func10 (by kernel_rfl) rfl #[.string js7, .string js11] rfl (by (try simp only [List.map_toArray, List.map_cons, List.map_nil]); first | done | rfl | (simp only [List.length_drop, List.length_take]; rfl)) ?_; (with_reducible refine (sep_Least.calls k js7 js11 t182 t183 _ A13.out).mono ?_); rintro e w19 ⟨rfl, hb⟩; refine ⟨_, rfl, ?_⟩; have n0_ := Aside0.mk (Kd.R_below (by (with_reducible repeat (first | apply Kd.R_alloc | apply Kd.R_drewN | apply Kd.R_drew)); exact HO181.out) hb); have n1_ := Aside0.mk (below_step (by repeat (first | (with_reducible first | exact HB.out | apply below_alloc | apply pw_below_drewN | apply below_drew1) | exact HB.out)) hb); clear HO181; clear HB; have HO181 := n0_; have HB := n1_; clear n0_ n1_; (try clear hb); (try clear hb2); (try clear hk); (try clear hi)) | ((with_reducible refine gate_callee (f := 11) rfl ?_); refine goesL_ (some 37) rfl rfl Try.func11 (by kernel_rfl) rfl #[.string js7, .string js11] rfl (by (try simp only [List.map_toArray, List.map_cons, List.map_nil]); first | done | rfl | (simp only [List.length_drop, List.length_take]; rfl)) ?_; (with_reducible refine (withyref05_Least.calls k js7 js11 t184 t185 _ A14.out).mono ?_); rintro e w' ⟨rfl, ⟨nd, rfl⟩⟩; refine ⟨_, rfl, ?_⟩; obtain ⟨Ao20, co20, eo20⟩ := Kd.R_slice HO181.out; subst eo20) | ((with_reducible refine gate_callee (f := 12) rfl ?_); refine goesL_ (some 42) rfl rfl Try.func12 (by kernel_rfl) rfl #[.slice Ao20 t179.length co20] rfl (by (try simp only [List.map_toArray, List.map_cons, List.map_nil]); first | done | rfl | (simp only [List.length_drop, List.length_take]; rfl)) ?_; (with_reducible refine (sep_Strip.calls k _ _ t179 t186 t187 _ ?side1 ?side2 A15.out).mono ?_); (case side1 => repeat (first | exact (Kd.R_reads' HO181.out).2.2 | (with_reducible refine Kd.C_alloc ?_ _) | (with_reducible refine Kd.C_drewN ?_ _) | (with_reducible refine Kd.C_drew ?_))); (case side2 => exact (Kd.R_reads' HO181.out).2.1); rintro e w21 ⟨v188, rfl, ho0, hb⟩; refine ⟨_, rfl, ?_⟩; have n0_ := Aside0.mk (Kd.R_elder' (by (with_reducible repeat (first | apply Kd.R_alloc | apply Kd.R_drewN | apply Kd.R_drew)); exact HO181.out) (Kd.R_base ho0) hb); have n1_ := Aside0.mk (Kd.R_lower (Kd.R_new' ho0 (Kd.R_lt (by (with_reducible repeat (first | apply Kd.R_alloc | apply Kd.R_drewN | apply Kd.R_drew)); exact HO181.out))) (below_size (by repeat (first | (with_reducible first | exact HB.out | apply below_alloc | apply pw_below_drewN | apply below_drew1) | exact HB.out)))); have n2_ := Aside0.mk (below_step (by repeat (first | (with_reducible first | exact HB.out | apply below_alloc | apply pw_below_drewN | apply below_drew1) | exact HB.out)) hb); clear HO181; clear HB; have HO181 := n0_; have HO189 := n1_; have HB := n2_; clear n0_ n1_ n2_; (try clear hb); (try clear hb2); (try clear hk); (try clear hi); (try clear ho0)) | ((with_reducible refine gate_callee (f := 13) rfl ?_); refine goesL_ (some 47) rfl rfl Try.func13 (by kernel_rfl) rfl #[.slice Ao20 t179.length co20] rfl (by (try simp only [List.map_toArray, List.map_cons, List.map_nil]); first | done | rfl | (simp only [List.length_drop, List.length_take]; rfl)) ?_; (with_reducible refine (withyref05_Strip.calls k _ _ t179 t190 t191 _ ?side1 ?side2 A16.out).mono ?_); (case side1 => repeat (first | exact (Kd.R_reads' HO181.out).2.2 | (with_reducible refine Kd.C_alloc ?_ _) | (with_reducible refine Kd.C_drewN ?_ _) | (with_reducible refine Kd.C_drew ?_))); (case side2 => exact (Kd.R_reads' HO181.out).2.1); rintro e w22 ⟨v192, rfl, ho0, hb⟩; refine ⟨_, rfl, ?_⟩; have n0_ := Aside0.mk (Kd.R_elder' (by (with_reducible repeat (first | apply Kd.R_alloc | apply Kd.R_drewN | apply Kd.R_drew)); exact HO181.out) (Kd.R_base ho0) hb); have n1_ := Aside0.mk (Kd.R_elder' (by (with_reducible repeat (first | apply Kd.R_alloc | apply Kd.R_drewN | apply Kd.R_drew)); exact HO189.out) (Kd.R_base ho0) hb); have n2_ := Aside0.mk (Kd.R_lower (Kd.R_new' (Kd.R_new' ho0 (Kd.R_lt (by (with_reducible repeat (first | apply Kd.R_alloc | apply Kd.R_drewN | apply Kd.R_drew)); exact HO181.out))) (Kd.R_lt (by (with_reducible repeat (first | apply Kd.R_alloc | apply Kd.R_drewN | apply Kd.R_drew)); exact HO189.out))) (below_size (by repeat (first | (with_reducible first | exact HB.out | apply below_alloc | apply pw_below_drewN | apply below_drew1) | exact HB.out)))); have n3_ := Aside0.mk (below_step (by repeat (first | (with_reducible first | exact HB.out | apply below_alloc | apply pw_below_drewN | apply below_drew1) | exact HB.out)) hb); clear HO181; clear HO189; clear HB; have HO181 := n0_; have HO189 := n1_; have HO193 := n2_; have HB := n3_; clear n0_ n1_ n2_ n3_; (try clear hb); (try clear hb2); (try clear hk); (try clear hi); (try clear ho0)))
          (try simp only [Act.put, List.setIfInBounds_toArray, List.set_cons_zero, List.set_cons_succ])
          go_cut [15] (fun v15 wc => ∃ (kq : Nat) (x15_16 : ByteArray), v15 = .string x15_16 ∧ Aside0 (withylaw05_SepTells.j0 kq js7 js11 t179 t182 t183 t184 t185 t186 t187 t190 t191 x15_16 = some r) ∧ Aside0 (kq ≤ k) ∧ Aside0 (Kd.R Kd.string 9 wc w.heap.size (fun k_ => some k_ ≠ (v188 : Value).ownBlock ∧ some k_ ≠ (v192 : Value).ownBlock) (.slice Ao20 t179.length co20) t179) ∧ Aside0 (Kd.R Kd.string 9 wc w.heap.size (fun k_ => some k_ ≠ ((.slice Ao20 t179.length co20) : Value).ownBlock ∧ some k_ ≠ (v192 : Value).ownBlock) v188 t187) ∧ Aside0 (Kd.R Kd.string 9 wc w.heap.size (fun k_ => some k_ ≠ ((.slice Ao20 t179.length co20) : Value).ownBlock ∧ some k_ ≠ (v188 : Value).ownBlock) v192 t191) ∧ Aside0 (Below w.heap.size w wc))
          case first =>
            have H := HC17.out
            clear HC17
            by_cases c23 : (t179.length : Int) > 0
            · rw [if_pos c23] at H
              have c23b0 : decide (0 < (t179.length : Int)) = true := decide_eq_true c23
              have c23b1 : decide (0 < t179.length) = true := decide_eq_true (by omega)
              clear c23
              (first | rw [c23b0] | (simp only [i64_w, i32_w]; rw [c23b0]) | rw [c23b1] | skip)
              by_cases c24 : 0 < (t179.length : Int)
              · rw [if_pos c24] at H
                have c24b0 : decide (0 < (t179.length : Int)) = true := decide_eq_true c24
                have c24b1 : decide (0 < t179.length) = true := decide_eq_true (by omega)
                clear c24
                have H' := Aside0.mk H
                clear H
                have p194 : 0 ≤ (0 : Int) := (by omega)
                have q194 : 0 < (t179.length : Int) := of_decide_eq_true (by first | (with_reducible assumption) | assumption)
                obtain ⟨ad194, e194, hx194_0⟩ := Kd.at_string (Kd.R_reads' HO181.out).2.2 0 p194 q194
                cases e194
                have qi194 : (0 < t179.length) = True := eq_true (by omega)
                (try rw [show ((0 : Int)).toNat = 0 from rfl] at hx194_0)
                (try rw [Addr.add_zero'] at hx194_0)
                replace p194 := eq_true p194
                replace q194 := eq_true q194
                go_wp2
                go_meet
                case rel => exact ⟨_, (rdOf ByteArray.empty t179 0), (by first | rfl | (simp; done) | (simp [*]; done)), H', ⟨by first | omega | exact Nat.le_refl _⟩, ⟨by (with_reducible repeat (first | apply Kd.R_alloc | apply Kd.R_drewN | apply Kd.R_drew)); exact Kd.R_mono HO181.out (fun _ hk => ⟨hk.1.2, hk.2⟩)⟩, ⟨by (with_reducible repeat (first | apply Kd.R_alloc | apply Kd.R_drewN | apply Kd.R_drew)); exact Kd.R_mono HO189.out (fun _ hk => ⟨hk.1.2, hk.2⟩)⟩, ⟨by (with_reducible repeat (first | apply Kd.R_alloc | apply Kd.R_drewN | apply Kd.R_drew)); exact Kd.R_mono HO193.out (fun _ hk => ⟨hk.1.2, hk.2⟩)⟩, ⟨by repeat (first | (with_reducible first | exact HB.out | apply below_alloc | apply pw_below_drewN | apply below_drew1) | exact HB.out)⟩⟩
              · rw [if_neg c24] at H
                exact absurd H (by simp)
            · rw [if_neg c23] at H
              have c23b0 : decide (0 < (t179.length : Int)) = false := decide_eq_false c23
              have c23b1 : decide (0 < t179.length) = false := decide_eq_false (by omega)
              clear c23
              (first | rw [c23b0] | (simp only [i64_w, i32_w]; rw [c23b0]) | rw [c23b1] | skip)
              have H' := Aside0.mk H
              clear H
              go_wp2
              go_meet
              case rel => exact ⟨_, ((⟨#[]⟩ : ByteArray)), (by first | rfl | (simp; done) | (simp [*]; done)), H', ⟨by first | omega | exact Nat.le_refl _⟩, ⟨by (with_reducible repeat (first | apply Kd.R_alloc | apply Kd.R_drewN | apply Kd.R_drew)); exact Kd.R_mono HO181.out (fun _ hk => ⟨hk.1.2, hk.2⟩)⟩, ⟨by (with_reducible repeat (first | apply Kd.R_alloc | apply Kd.R_drewN | apply Kd.R_drew)); exact Kd.R_mono HO189.out (fun _ hk => ⟨hk.1.2, hk.2⟩)⟩, ⟨by (with_reducible repeat (first | apply Kd.R_alloc | apply Kd.R_drewN | apply Kd.R_drew)); exact Kd.R_mono HO193.out (fun _ hk => ⟨hk.1.2, hk.2⟩)⟩, ⟨by repeat (first | (with_reducible first | exact HB.out | apply below_alloc | apply pw_below_drewN | apply below_drew1) | exact HB.out)⟩⟩
          case rest =>
            clear HC17
            try clear c1
            try clear p1
            try clear q1
            try clear hx1
            try clear qi1
            try clear c2
            try clear p2
            try clear c3
            try clear c5
            try clear c5b0
            try clear c5b1
            try clear c6
            try clear c6b0
            try clear c6b1
            try clear c9
            try clear c9b0
            try clear c9b1
            try clear c10
            try clear c10b0
            try clear c10b1
            try clear c11
            try clear c12
            try clear c13
            try clear p19
            try clear q19
            try clear hx19
            try clear qi19
            try clear c23
            try clear c23b0
            try clear c23b1
            try clear c24
            try clear c24b0
            try clear c24b1
            try clear hx194_0
            try clear p194
            try clear q194
            obtain ⟨kq, x15_16, rfl, HA, HJ16, HO_2, HO_12, HO_14, HB⟩ := hcut
            cases kq with
            | zero => exact absurd HA.out (by simp [withylaw05_SepTells.j0])
            | succ kj16 =>
              have H := HA.out
              clear HA
              simp only [withylaw05_SepTells.j0] at H
              replace H := Option.bind_eq_some_iff.mp H
              obtain ⟨t195, A250, H⟩ := H
              replace H : ((withyref05_Common.f kj16 js7 js11).bind fun t196 => (if t195 = t196 then ((sep_Span.f kj16 t179).bind fun t197 => ((withyref05_Span.f kj16 t179).bind fun t198 => (if t197 = t198 then (if t182.toList = t184.toList then (if t183 = t185 then (if t186.toList = t190.toList then ((withyref01_Words.f kj16 t187 t191).bind fun t199 => (if t199 = true then ((sep_Between.f x15_16 js7 js11 true).bind fun t200 => (if ((Op.bytesLess x15_16.toList js7.toList) = true) then (if (t200 == false) = true then ((sep_Between.f x15_16 js7 js11 false).bind fun t201 => (if (t201 == (!(Op.bytesLess x15_16.toList js7.toList))) = true then ((withylaw05_fixed.f kj16).bind fun t202 => (some t202)) else (none))) else (none)) else (if (t200 == (Op.bytesLess x15_16.toList js11.toList)) = true then ((sep_Between.f x15_16 js7 js11 false).bind fun t203 => (if (t203 == (!(Op.bytesLess x15_16.toList js7.toList))) = true then ((withylaw05_fixed.f kj16).bind fun t204 => (some t204)) else (none))) else (none)))) else (none))) else (none)) else (none)) else (none)) else (none)))) else (none))) = some r := H
              have A25 := Aside0.mk A250
              clear A250
              replace H := Option.bind_eq_some_iff.mp H
              obtain ⟨t196, A260, H⟩ := H
              replace H : (if t195 = t196 then ((sep_Span.f kj16 t179).bind fun t197 => ((withyref05_Span.f kj16 t179).bind fun t198 => (if t197 = t198 then (if t182.toList = t184.toList then (if t183 = t185 then (if t186.toList = t190.toList then ((withyref01_Words.f kj16 t187 t191).bind fun t199 => (if t199 = true then ((sep_Between.f x15_16 js7 js11 true).bind fun t200 => (if ((Op.bytesLess x15_16.toList js7.toList) = true) then (if (t200 == false) = true then ((sep_Between.f x15_16 js7 js11 false).bind fun t201 => (if (t201 == (!(Op.bytesLess x15_16.toList js7.toList))) = true then ((withylaw05_fixed.f kj16).bind fun t202 => (some t202)) else (none))) else (none)) else (if (t200 == (Op.bytesLess x15_16.toList js11.toList)) = true then ((sep_Between.f x15_16 js7 js11 false).bind fun t203 => (if (t203 == (!(Op.bytesLess x15_16.toList js7.toList))) = true then ((withylaw05_fixed.f kj16).bind fun t204 => (some t204)) else (none))) else (none)))) else (none))) else (none)) else (none)) else (none)) else (none)))) else (none)) = some r := H
              have A26 := Aside0.mk A260
              clear A260
              by_cases c27 : t195 = t196
              · rw [if_pos c27] at H
                have c27b0 : (t195 == t196) = true := beq_iff_eq.mpr c27
                have c27b1 : (t195 != t196) = false := bne_eq_false_iff_eq.mpr c27
                clear c27
                replace H := Option.bind_eq_some_iff.mp H
                obtain ⟨t197, A280, H⟩ := H
                replace H : ((withyref05_Span.f kj16 t179).bind fun t198 => (if t197 = t198 then (if t182.toList = t184.toList then (if t183 = t185 then (if t186.toList = t190.toList then ((withyref01_Words.f kj16 t187 t191).bind fun t199 => (if t199 = true then ((sep_Between.f x15_16 js7 js11 true).bind fun t200 => (if ((Op.bytesLess x15_16.toList js7.toList) = true) then (if (t200 == false) = true then ((sep_Between.f x15_16 js7 js11 false).bind fun t201 => (if (t201 == (!(Op.bytesLess x15_16.toList js7.toList))) = true then ((withylaw05_fixed.f kj16).bind fun t202 => (some t202)) else (none))) else (none)) else (if (t200 == (Op.bytesLess x15_16.toList js11.toList)) = true then ((sep_Between.f x15_16 js7 js11 false).bind fun t203 => (if (t203 == (!(Op.bytesLess x15_16.toList js7.toList))) = true then ((withylaw05_fixed.f kj16).bind fun t204 => (some t204)) else (none))) else (none)))) else (none))) else (none)) else (none)) else (none)) else (none))) = some r := H
                have A28 := Aside0.mk A280
                clear A280
                replace H := Option.bind_eq_some_iff.mp H
                obtain ⟨t198, A290, H⟩ := H
                replace H : (if t197 = t198 then (if t182.toList = t184.toList then (if t183 = t185 then (if t186.toList = t190.toList then ((withyref01_Words.f kj16 t187 t191).bind fun t199 => (if t199 = true then ((sep_Between.f x15_16 js7 js11 true).bind fun t200 => (if ((Op.bytesLess x15_16.toList js7.toList) = true) then (if (t200 == false) = true then ((sep_Between.f x15_16 js7 js11 false).bind fun t201 => (if (t201 == (!(Op.bytesLess x15_16.toList js7.toList))) = true then ((withylaw05_fixed.f kj16).bind fun t202 => (some t202)) else (none))) else (none)) else (if (t200 == (Op.bytesLess x15_16.toList js11.toList)) = true then ((sep_Between.f x15_16 js7 js11 false).bind fun t203 => (if (t203 == (!(Op.bytesLess x15_16.toList js7.toList))) = true then ((withylaw05_fixed.f kj16).bind fun t204 => (some t204)) else (none))) else (none)))) else (none))) else (none)) else (none)) else (none)) else (none)) = some r := H
                have A29 := Aside0.mk A290
                clear A290
                by_cases c30 : t197 = t198
                · rw [if_pos c30] at H
                  have c30b0 : (t197 == t198) = true := beq_iff_eq.mpr c30
                  have c30b1 : (t197 != t198) = false := bne_eq_false_iff_eq.mpr c30
                  clear c30
                  by_cases c31 : t182.toList = t184.toList
                  · rw [if_pos c31] at H
                    have c31b0 : (t182.toList == t184.toList) = true := beq_iff_eq.mpr c31
                    have c31b1 : (t182.toList != t184.toList) = false := bne_eq_false_iff_eq.mpr c31
                    clear c31
                    by_cases c32 : t183 = t185
                    · rw [if_pos c32] at H
                      have c32b0 : (t183 == t185) = true := beq_iff_eq.mpr c32
                      have c32b1 : (t183 != t185) = false := bne_eq_false_iff_eq.mpr c32
                      clear c32
                      by_cases c33 : t186.toList = t190.toList
                      · rw [if_pos c33] at H
                        have c33b0 : (t186.toList == t190.toList) = true := beq_iff_eq.mpr c33
                        have c33b1 : (t186.toList != t190.toList) = false := bne_eq_false_iff_eq.mpr c33
                        clear c33
                        replace H := Option.bind_eq_some_iff.mp H
                        obtain ⟨t199, A340, H⟩ := H
                        replace H : (if t199 = true then ((sep_Between.f x15_16 js7 js11 true).bind fun t200 => (if ((Op.bytesLess x15_16.toList js7.toList) = true) then (if (t200 == false) = true then ((sep_Between.f x15_16 js7 js11 false).bind fun t201 => (if (t201 == (!(Op.bytesLess x15_16.toList js7.toList))) = true then ((withylaw05_fixed.f kj16).bind fun t202 => (some t202)) else (none))) else (none)) else (if (t200 == (Op.bytesLess x15_16.toList js11.toList)) = true then ((sep_Between.f x15_16 js7 js11 false).bind fun t203 => (if (t203 == (!(Op.bytesLess x15_16.toList js7.toList))) = true then ((withylaw05_fixed.f kj16).bind fun t204 => (some t204)) else (none))) else (none)))) else (none)) = some r := H
                        have A34 := Aside0.mk A340
                        clear A340
                        by_cases c35 : t199 = true
                        · subst c35
                          have H1 : ((sep_Between.f x15_16 js7 js11 true).bind fun t200 => (if ((Op.bytesLess x15_16.toList js7.toList) = true) then (if (t200 == false) = true then ((sep_Between.f x15_16 js7 js11 false).bind fun t201 => (if (t201 == (!(Op.bytesLess x15_16.toList js7.toList))) = true then ((withylaw05_fixed.f kj16).bind fun t202 => (some t202)) else (none))) else (none)) else (if (t200 == (Op.bytesLess x15_16.toList js11.toList)) = true then ((sep_Between.f x15_16 js7 js11 false).bind fun t203 => (if (t203 == (!(Op.bytesLess x15_16.toList js7.toList))) = true then ((withylaw05_fixed.f kj16).bind fun t204 => (some t204)) else (none))) else (none)))) = some r := by rw [if_pos rfl] at H; exact H
                          clear H
                          have H := H1
                          clear H1
                          replace H := Option.bind_eq_some_iff.mp H
                          obtain ⟨t200, A360, H⟩ := H
                          replace H : (if ((Op.bytesLess x15_16.toList js7.toList) = true) then (if (t200 == false) = true then ((sep_Between.f x15_16 js7 js11 false).bind fun t201 => (if (t201 == (!(Op.bytesLess x15_16.toList js7.toList))) = true then ((withylaw05_fixed.f kj16).bind fun t202 => (some t202)) else (none))) else (none)) else (if (t200 == (Op.bytesLess x15_16.toList js11.toList)) = true then ((sep_Between.f x15_16 js7 js11 false).bind fun t203 => (if (t203 == (!(Op.bytesLess x15_16.toList js7.toList))) = true then ((withylaw05_fixed.f kj16).bind fun t204 => (some t204)) else (none))) else (none))) = some r := H
                          have A36 := Aside0.mk A360
                          clear A360
                          by_cases c37 : ((Op.bytesLess x15_16.toList js7.toList) = true)
                          · rw [if_pos c37] at H
                            have c37b0 : (Op.bytesLess x15_16.toList js7.toList) = true := c37
                            clear c37
                            by_cases c38 : (t200 == false) = true
                            · rw [if_pos c38] at H
                              have c38b0 : (t200 == false) = true := c38
                              (try (have c38b1 : t200 = false := by simpa using c38))
                              (try (have c38b2 : decide (t200 = false) = true := by simpa using c38))
                              (try (have c38b3 : (t200 == false) = true := by simpa using c38))
                              clear c38
                              replace H := Option.bind_eq_some_iff.mp H
                              obtain ⟨t201, A390, H⟩ := H
                              replace H : (if (t201 == (!(Op.bytesLess x15_16.toList js7.toList))) = true then ((withylaw05_fixed.f kj16).bind fun t202 => (some t202)) else (none)) = some r := H
                              have A39 := Aside0.mk A390
                              clear A390
                              by_cases c40 : (t201 == (!(Op.bytesLess x15_16.toList js7.toList))) = true
                              · rw [if_pos c40] at H
                                have c40b0 : (t201 == (!(Op.bytesLess x15_16.toList js7.toList))) = true := c40
                                (try (have c40b1 : t201 = (!(Op.bytesLess x15_16.toList js7.toList)) := by simpa using c40))
                                (try (have c40b2 : decide (t201 = (!(Op.bytesLess x15_16.toList js7.toList))) = true := by simpa using c40))
                                (try (have c40b3 : (t201 == (!(Op.bytesLess x15_16.toList js7.toList))) = true := by simpa using c40))
                                clear c40
                                replace H := Option.bind_eq_some_iff.mp H
                                obtain ⟨t202, A410, H⟩ := H
                                replace H : (some t202) = some r := H
                                have A41 := Aside0.mk A410
                                clear A410
                                obtain rfl := Option.some.inj H
                                go_wp2_with (first | ((with_reducible refine gate_callee (f := 14) rfl ?_); refine goesL_ (some 58) rfl rfl Try.func14 (by kernel_rfl) rfl #[.string js7, .string js11] rfl (by (try simp only [List.map_toArray, List.map_cons, List.map_nil]); first | done | rfl | (simp only [List.length_drop, List.length_take]; rfl)) ?_; (with_reducible refine (sep_Common.calls kj16 js7 js11 t195 _ A25.out).mono ?_); rintro e w42 ⟨rfl, hb⟩; refine ⟨_, rfl, ?_⟩; have n0_ := Aside0.mk (Kd.R_below (by (with_reducible repeat (first | apply Kd.R_alloc | apply Kd.R_drewN | apply Kd.R_drew)); exact HO_2.out) hb); have n1_ := Aside0.mk (Kd.R_below (by (with_reducible repeat (first | apply Kd.R_alloc | apply Kd.R_drewN | apply Kd.R_drew)); exact HO_12.out) hb); have n2_ := Aside0.mk (Kd.R_below (by (with_reducible repeat (first | apply Kd.R_alloc | apply Kd.R_drewN | apply Kd.R_drew)); exact HO_14.out) hb); have n3_ := Aside0.mk (below_step (by repeat (first | (with_reducible first | exact HB.out | apply below_alloc | apply pw_below_drewN | apply below_drew1) | exact HB.out)) hb); clear HO_2; clear HO_12; clear HO_14; clear HB; have HO_2 := n0_; have HO_12 := n1_; have HO_14 := n2_; have HB := n3_; clear n0_ n1_ n2_ n3_; (try clear hb); (try clear hb2); (try clear hk); (try clear hi)) | ((with_reducible refine gate_callee (f := 15) rfl ?_); refine goesL_ (some 61) rfl rfl Try.func15 (by kernel_rfl) rfl #[.string js7, .string js11] rfl (by (try simp only [List.map_toArray, List.map_cons, List.map_nil]); first | done | rfl | (simp only [List.length_drop, List.length_take]; rfl)) ?_; (with_reducible refine (withyref05_Common.calls kj16 js7 js11 t196 _ A26.out).mono ?_); rintro e w' ⟨rfl, ⟨nd, rfl⟩⟩; refine ⟨_, rfl, ?_⟩) | (go_at_call 16; (with_reducible refine (sep_Span.calls kj16 _ _ t179 t197 _ ?side1 ?side2 A28.out).mono ?_); (case side1 => repeat (first | exact (Kd.R_reads' HO_2.out).2.2 | (with_reducible refine Kd.C_alloc ?_ _) | (with_reducible refine Kd.C_drewN ?_ _) | (with_reducible refine Kd.C_drew ?_))); (case side2 => exact (Kd.R_reads' HO_2.out).2.1); rintro e w43 ⟨rfl, hb⟩; have n0_ := Aside0.mk (Kd.R_below (by (with_reducible repeat (first | apply Kd.R_alloc | apply Kd.R_drewN | apply Kd.R_drew)); exact HO_2.out) hb); have n1_ := Aside0.mk (Kd.R_below (by (with_reducible repeat (first | apply Kd.R_alloc | apply Kd.R_drewN | apply Kd.R_drew)); exact HO_12.out) hb); have n2_ := Aside0.mk (Kd.R_below (by (with_reducible repeat (first | apply Kd.R_alloc | apply Kd.R_drewN | apply Kd.R_drew)); exact HO_14.out) hb); have n3_ := Aside0.mk (below_step (by repeat (first | (with_reducible first | exact HB.out | apply below_alloc | apply pw_below_drewN | apply below_drew1) | exact HB.out)) hb); clear HO_2; clear HO_12; clear HO_14; clear HB; have HO_2 := n0_; have HO_12 := n1_; have HO_14 := n2_; have HB := n3_; clear n0_ n1_ n2_ n3_; (try clear hb); (try clear hb2); (try clear hk); (try clear hi)) | (go_at_call 17; (with_reducible refine (withyref05_Span.calls kj16 _ _ t179 t198 _ ?side1 ?side2 A29.out).mono ?_); (case side1 => repeat (first | exact (Kd.R_reads' HO_2.out).2.2 | (with_reducible refine Kd.C_alloc ?_ _) | (with_reducible refine Kd.C_drewN ?_ _) | (with_reducible refine Kd.C_drew ?_))); (case side2 => exact (Kd.R_reads' HO_2.out).2.1); rintro e w' ⟨rfl, ⟨nd, rfl⟩⟩; obtain ⟨Ao44, co44, eo44⟩ := Kd.R_slice HO_12.out; subst eo44; obtain ⟨Ao45, co45, eo45⟩ := Kd.R_slice HO_14.out; subst eo45) | (go_at_call 18; (with_reducible refine (withyref01_Words.calls kj16 _ _ t187 _ _ t191 true _ ?side1 ?side2 ?side3 ?side4 A34.out).mono ?_); (case side1 => repeat (first | exact (Kd.R_reads' HO_12.out).2.2 | (with_reducible refine Kd.C_alloc ?_ _) | (with_reducible refine Kd.C_drewN ?_ _) | (with_reducible refine Kd.C_drew ?_))); (case side2 => exact (Kd.R_reads' HO_12.out).2.1); (case side3 => repeat (first | exact (Kd.R_reads' HO_14.out).2.2 | (with_reducible refine Kd.C_alloc ?_ _) | (with_reducible refine Kd.C_drewN ?_ _) | (with_reducible refine Kd.C_drew ?_))); (case side4 => exact (Kd.R_reads' HO_14.out).2.1); rintro e w' ⟨rfl, ⟨nd, rfl⟩⟩) | (go_at_call 19; (with_reducible refine (sep_Between.calls x15_16 js7 js11 true t200 _ A36.out).mono ?_); rintro e w' ⟨rfl, ⟨nd, rfl⟩⟩) | (go_at_call 19; (with_reducible refine (sep_Between.calls x15_16 js7 js11 false t201 _ A39.out).mono ?_); rintro e w' ⟨rfl, ⟨nd, rfl⟩⟩) | (go_at_call 20; (with_reducible refine (withylaw05_fixed.calls kj16  t202 _ A41.out).mono ?_); rintro e w46 ⟨rfl, hb⟩; have n0_ := Aside0.mk (Kd.R_below (by (with_reducible repeat (first | apply Kd.R_alloc | apply Kd.R_drewN | apply Kd.R_drew)); exact HO_2.out) hb); have n1_ := Aside0.mk (Kd.R_below (by (with_reducible repeat (first | apply Kd.R_alloc | apply Kd.R_drewN | apply Kd.R_drew)); exact HO_12.out) hb); have n2_ := Aside0.mk (Kd.R_below (by (with_reducible repeat (first | apply Kd.R_alloc | apply Kd.R_drewN | apply Kd.R_drew)); exact HO_14.out) hb); have n3_ := Aside0.mk (below_step (by repeat (first | (with_reducible first | exact HB.out | apply below_alloc | apply pw_below_drewN | apply below_drew1) | exact HB.out)) hb); clear HO_2; clear HO_12; clear HO_14; clear HB; have HO_2 := n0_; have HO_12 := n1_; have HO_14 := n2_; have HB := n3_; clear n0_ n1_ n2_ n3_; (try clear hb); (try clear hb2); (try clear hk); (try clear hi)))
                                go_ret
                                exact ⟨by first | rfl | (simp [errW_none, errW_some] <;> rfl) | (simp only [← hji4, ← hjs7, ← hji8, ← hjs11]; first | rfl | (simp [errW_none, errW_some] <;> rfl)) | (simp [*, errW_none, errW_some] <;> rfl), by repeat (first | (with_reducible first | exact HB.out | apply below_alloc | apply pw_below_drewN | apply below_drew1) | exact HB.out)⟩
                              · rw [if_neg c40] at H
                                exact absurd H (by simp)
                            · rw [if_neg c38] at H
                              exact absurd H (by simp)
                          · rw [if_neg c37] at H
                            have c37b0 : (Op.bytesLess x15_16.toList js7.toList) = false := by simpa using c37
                            clear c37
                            by_cases c47 : (t200 == (Op.bytesLess x15_16.toList js11.toList)) = true
                            · rw [if_pos c47] at H
                              have c47b0 : (t200 == (Op.bytesLess x15_16.toList js11.toList)) = true := c47
                              (try (have c47b1 : t200 = (Op.bytesLess x15_16.toList js11.toList) := by simpa using c47))
                              (try (have c47b2 : decide (t200 = (Op.bytesLess x15_16.toList js11.toList)) = true := by simpa using c47))
                              (try (have c47b3 : (t200 == (Op.bytesLess x15_16.toList js11.toList)) = true := by simpa using c47))
                              clear c47
                              replace H := Option.bind_eq_some_iff.mp H
                              obtain ⟨t203, A480, H⟩ := H
                              replace H : (if (t203 == (!(Op.bytesLess x15_16.toList js7.toList))) = true then ((withylaw05_fixed.f kj16).bind fun t204 => (some t204)) else (none)) = some r := H
                              have A48 := Aside0.mk A480
                              clear A480
                              by_cases c49 : (t203 == (!(Op.bytesLess x15_16.toList js7.toList))) = true
                              · rw [if_pos c49] at H
                                have c49b0 : (t203 == (!(Op.bytesLess x15_16.toList js7.toList))) = true := c49
                                (try (have c49b1 : t203 = (!(Op.bytesLess x15_16.toList js7.toList)) := by simpa using c49))
                                (try (have c49b2 : decide (t203 = (!(Op.bytesLess x15_16.toList js7.toList))) = true := by simpa using c49))
                                (try (have c49b3 : (t203 == (!(Op.bytesLess x15_16.toList js7.toList))) = true := by simpa using c49))
                                clear c49
                                replace H := Option.bind_eq_some_iff.mp H
                                obtain ⟨t204, A500, H⟩ := H
                                replace H : (some t204) = some r := H
                                have A50 := Aside0.mk A500
                                clear A500
                                obtain rfl := Option.some.inj H
                                go_wp2_with (first | ((with_reducible refine gate_callee (f := 14) rfl ?_); refine goesL_ (some 58) rfl rfl Try.func14 (by kernel_rfl) rfl #[.string js7, .string js11] rfl (by (try simp only [List.map_toArray, List.map_cons, List.map_nil]); first | done | rfl | (simp only [List.length_drop, List.length_take]; rfl)) ?_; (with_reducible refine (sep_Common.calls kj16 js7 js11 t195 _ A25.out).mono ?_); rintro e w51 ⟨rfl, hb⟩; refine ⟨_, rfl, ?_⟩; have n0_ := Aside0.mk (Kd.R_below (by (with_reducible repeat (first | apply Kd.R_alloc | apply Kd.R_drewN | apply Kd.R_drew)); exact HO_2.out) hb); have n1_ := Aside0.mk (Kd.R_below (by (with_reducible repeat (first | apply Kd.R_alloc | apply Kd.R_drewN | apply Kd.R_drew)); exact HO_12.out) hb); have n2_ := Aside0.mk (Kd.R_below (by (with_reducible repeat (first | apply Kd.R_alloc | apply Kd.R_drewN | apply Kd.R_drew)); exact HO_14.out) hb); have n3_ := Aside0.mk (below_step (by repeat (first | (with_reducible first | exact HB.out | apply below_alloc | apply pw_below_drewN | apply below_drew1) | exact HB.out)) hb); clear HO_2; clear HO_12; clear HO_14; clear HB; have HO_2 := n0_; have HO_12 := n1_; have HO_14 := n2_; have HB := n3_; clear n0_ n1_ n2_ n3_; (try clear hb); (try clear hb2); (try clear hk); (try clear hi)) | ((with_reducible refine gate_callee (f := 15) rfl ?_); refine goesL_ (some 61) rfl rfl Try.func15 (by kernel_rfl) rfl #[.string js7, .string js11] rfl (by (try simp only [List.map_toArray, List.map_cons, List.map_nil]); first | done | rfl | (simp only [List.length_drop, List.length_take]; rfl)) ?_; (with_reducible refine (withyref05_Common.calls kj16 js7 js11 t196 _ A26.out).mono ?_); rintro e w' ⟨rfl, ⟨nd, rfl⟩⟩; refine ⟨_, rfl, ?_⟩) | (go_at_call 16; (with_reducible refine (sep_Span.calls kj16 _ _ t179 t197 _ ?side1 ?side2 A28.out).mono ?_); (case side1 => repeat (first | exact (Kd.R_reads' HO_2.out).2.2 | (with_reducible refine Kd.C_alloc ?_ _) | (with_reducible refine Kd.C_drewN ?_ _) | (with_reducible refine Kd.C_drew ?_))); (case side2 => exact (Kd.R_reads' HO_2.out).2.1); rintro e w52 ⟨rfl, hb⟩; have n0_ := Aside0.mk (Kd.R_below (by (with_reducible repeat (first | apply Kd.R_alloc | apply Kd.R_drewN | apply Kd.R_drew)); exact HO_2.out) hb); have n1_ := Aside0.mk (Kd.R_below (by (with_reducible repeat (first | apply Kd.R_alloc | apply Kd.R_drewN | apply Kd.R_drew)); exact HO_12.out) hb); have n2_ := Aside0.mk (Kd.R_below (by (with_reducible repeat (first | apply Kd.R_alloc | apply Kd.R_drewN | apply Kd.R_drew)); exact HO_14.out) hb); have n3_ := Aside0.mk (below_step (by repeat (first | (with_reducible first | exact HB.out | apply below_alloc | apply pw_below_drewN | apply below_drew1) | exact HB.out)) hb); clear HO_2; clear HO_12; clear HO_14; clear HB; have HO_2 := n0_; have HO_12 := n1_; have HO_14 := n2_; have HB := n3_; clear n0_ n1_ n2_ n3_; (try clear hb); (try clear hb2); (try clear hk); (try clear hi)) | (go_at_call 17; (with_reducible refine (withyref05_Span.calls kj16 _ _ t179 t198 _ ?side1 ?side2 A29.out).mono ?_); (case side1 => repeat (first | exact (Kd.R_reads' HO_2.out).2.2 | (with_reducible refine Kd.C_alloc ?_ _) | (with_reducible refine Kd.C_drewN ?_ _) | (with_reducible refine Kd.C_drew ?_))); (case side2 => exact (Kd.R_reads' HO_2.out).2.1); rintro e w' ⟨rfl, ⟨nd, rfl⟩⟩; obtain ⟨Ao53, co53, eo53⟩ := Kd.R_slice HO_12.out; subst eo53; obtain ⟨Ao54, co54, eo54⟩ := Kd.R_slice HO_14.out; subst eo54) | (go_at_call 18; (with_reducible refine (withyref01_Words.calls kj16 _ _ t187 _ _ t191 true _ ?side1 ?side2 ?side3 ?side4 A34.out).mono ?_); (case side1 => repeat (first | exact (Kd.R_reads' HO_12.out).2.2 | (with_reducible refine Kd.C_alloc ?_ _) | (with_reducible refine Kd.C_drewN ?_ _) | (with_reducible refine Kd.C_drew ?_))); (case side2 => exact (Kd.R_reads' HO_12.out).2.1); (case side3 => repeat (first | exact (Kd.R_reads' HO_14.out).2.2 | (with_reducible refine Kd.C_alloc ?_ _) | (with_reducible refine Kd.C_drewN ?_ _) | (with_reducible refine Kd.C_drew ?_))); (case side4 => exact (Kd.R_reads' HO_14.out).2.1); rintro e w' ⟨rfl, ⟨nd, rfl⟩⟩) | (go_at_call 19; (with_reducible refine (sep_Between.calls x15_16 js7 js11 true t200 _ A36.out).mono ?_); rintro e w' ⟨rfl, ⟨nd, rfl⟩⟩) | (go_at_call 19; (with_reducible refine (sep_Between.calls x15_16 js7 js11 false t203 _ A48.out).mono ?_); rintro e w' ⟨rfl, ⟨nd, rfl⟩⟩) | (go_at_call 20; (with_reducible refine (withylaw05_fixed.calls kj16  t204 _ A50.out).mono ?_); rintro e w55 ⟨rfl, hb⟩; have n0_ := Aside0.mk (Kd.R_below (by (with_reducible repeat (first | apply Kd.R_alloc | apply Kd.R_drewN | apply Kd.R_drew)); exact HO_2.out) hb); have n1_ := Aside0.mk (Kd.R_below (by (with_reducible repeat (first | apply Kd.R_alloc | apply Kd.R_drewN | apply Kd.R_drew)); exact HO_12.out) hb); have n2_ := Aside0.mk (Kd.R_below (by (with_reducible repeat (first | apply Kd.R_alloc | apply Kd.R_drewN | apply Kd.R_drew)); exact HO_14.out) hb); have n3_ := Aside0.mk (below_step (by repeat (first | (with_reducible first | exact HB.out | apply below_alloc | apply pw_below_drewN | apply below_drew1) | exact HB.out)) hb); clear HO_2; clear HO_12; clear HO_14; clear HB; have HO_2 := n0_; have HO_12 := n1_; have HO_14 := n2_; have HB := n3_; clear n0_ n1_ n2_ n3_; (try clear hb); (try clear hb2); (try clear hk); (try clear hi)))
                                go_ret
                                exact ⟨by first | rfl | (simp [errW_none, errW_some] <;> rfl) | (simp only [← hji4, ← hjs7, ← hji8, ← hjs11]; first | rfl | (simp [errW_none, errW_some] <;> rfl)) | (simp [*, errW_none, errW_some] <;> rfl), by repeat (first | (with_reducible first | exact HB.out | apply below_alloc | apply pw_below_drewN | apply below_drew1) | exact HB.out)⟩
                              · rw [if_neg c49] at H
                                exact absurd H (by simp)
                            · rw [if_neg c47] at H
                              exact absurd H (by simp)
                        · replace c35 := Bool.eq_false_iff.mpr c35
                          subst c35
                          have H1 : (none) = some r := by rw [if_neg (show ¬ (false = true) by decide)] at H; exact H
                          clear H
                          have H := H1
                          clear H1
                          exact absurd H (by simp)
                      · rw [if_neg c33] at H
                        exact absurd H (by simp)
                    · rw [if_neg c32] at H
                      exact absurd H (by simp)
                  · rw [if_neg c31] at H
                    exact absurd H (by simp)
                · rw [if_neg c30] at H
                  exact absurd H (by simp)
              · rw [if_neg c27] at H
                exact absurd H (by simp)
        · rw [if_neg c10] at H
          exact absurd H (by simp)
      · rw [if_neg c9] at H
        exact absurd H (by simp)
    · rw [if_neg c6] at H
      exact absurd H (by simp)
  · rw [if_neg c5] at H
    exact absurd H (by simp)

end Go.Proofs.Ythflaiogollleaa.P
