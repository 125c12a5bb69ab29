/- What is proved here: for functions of the Go text, a Lean function each, and that the call comes to just what it answers. Conditions: as each contract names them. Written by wip/tools/myprint.py, a driver of the print of the kit. -/
import Derived.Test.YtnkndnpnjbcaoaaP0
import Derived.Test.YtnkndnpnjbcaoaaP2
import Derived.Test.YtnkndnpnjbcaoaaP3
import Derived.Test.YtnkndnpnjbcaoaaP6
import Derived.Test.YtnkndnpnjbcaoaaP8
import Derived.Test.YtnkndnpnjbcaoaaP10
import Derived.Test.YtnkndnpnjbcaoaaP12
import Derived.Test.YtnkndnpnjbcaoaaWAbbr
namespace Go.Proofs.Ytnkndnpnjbcaoaa.P
open Go.RowKit Go.Proofs.YtnkndnpnjbcaoaaW.PrintWords Go.Proofs.YtnkndnpnjbcaoaaW.PrintLast Go.Proofs.YtnkndnpnjbcaoaaW.PrintMore Go.Proofs.YtnkndnpnjbcaoaaW.Abbr
-- PACKED
attribute [local go_sem] max2_int min2_int max_two min_two max_three min_three max_four min_four Go.Proofs.YtnkndnpnjbcaoaaLaws.str_leq Go.Proofs.YtnkndnpnjbcaoaaLaws.str_gtr Go.Proofs.YtnkndnpnjbcaoaaLaws.str_geq Go.Proofs.YtnkndnpnjbcaoaaLaws.max2_str Go.Proofs.YtnkndnpnjbcaoaaLaws.min2_str   -- for this text's walks alone
set_option linter.unusedVariables false
set_option linter.unusedSimpArgs false

attribute [local go_sem high] eqA29
/-! ### withylaw13_MetaTells: function 3 -/
def withylaw13_MetaTells.f (k : Nat) (a0_0 : Int) (a0_1 : Int) (a0_2 : Int) (a0_3 : Int) (a0_4 : Int) (a1_0 : ByteArray) (a1_1 : ByteArray) (a2 : Int) : Option (Bool) := if 0 ≤ (mn (a1_0.size : Int) 1100) then (if (mn (a1_0.size : Int) 1100) ≤ (a1_0.size : Int) then (if 0 ≤ (mn (a1_1.size : Int) 1100) then (if (mn (a1_1.size : Int) 1100) ≤ (a1_1.size : Int) then ((meta_Encode.f k a0_0 a0_1 a0_2 a0_3 a0_4).bind fun bt290 => ((withylaw13_Ref.f a0_0 a0_1 a0_2 a0_3 a0_4).bind fun bt292 => ((withyref13_Encode.f k bt292.1 bt292.2.1 bt292.2.2.1 bt292.2.2.2.1 bt292.2.2.2.2).bind fun bt297 => ((meta_Decode.f k (a1_0.extract 0 ((mn (a1_0.size : Int) 1100) : Int).toNat)).bind fun bt299 => ((withyref13_Decode.f k (a1_0.extract 0 ((mn (a1_0.size : Int) 1100) : Int).toNat)).bind fun bt306 => ((meta_May.f a0_0 a0_1 a0_2 a0_3 a0_4).bind fun t313 => ((withylaw13_Ref.f a0_0 a0_1 a0_2 a0_3 a0_4).bind fun bt314 => ((withyref13_May.f bt314.1 bt314.2.1 bt314.2.2.1 bt314.2.2.2.1 bt314.2.2.2.2).bind fun t319 => (if (t313 == t319) = true then (if bt290.1.toList = bt297.1.toList then (if bt290.2 = bt297.2 then ((withylaw13_Ref.f bt299.1 bt299.2.1 bt299.2.2.1 bt299.2.2.2.1 bt299.2.2.2.2.1).bind fun bt320 => (if (bt320.1 == bt306.1 && (bt320.2.1 == bt306.2.1 && (bt320.2.2.1 == bt306.2.2.1 && (bt320.2.2.2.1 == bt306.2.2.2.1 && (bt320.2.2.2.2 == bt306.2.2.2.2.1))))) = true then (if bt299.2.2.2.2.2 = bt306.2.2.2.2.2 then ((meta_Tear.f (a1_0.extract 0 ((mn (a1_0.size : Int) 1100) : Int).toNat) (a1_1.extract 0 ((mn (a1_1.size : Int) 1100) : Int).toNat) a2).bind fun t325 => ((withyref13_Tear.f (a1_0.extract 0 ((mn (a1_0.size : Int) 1100) : Int).toNat) (a1_1.extract 0 ((mn (a1_1.size : Int) 1100) : Int).toNat) a2).bind fun t326 => (if t325.toList = t326.toList then ((withylaw13_fixed.f k).bind fun t327 => (some t327)) else (none)))) else (none)) else (none))) else (none)) else (none)) else (none)))))))))) else (none)) else (none)) else (none)) else (none)
theorem withylaw13_MetaTells.mono : ∀ a0 a1 a2 a3 a4 a5 a6 a7 k, LeO (withylaw13_MetaTells.f k a0 a1 a2 a3 a4 a5 a6 a7) (withylaw13_MetaTells.f (k + 1) a0 a1 a2 a3 a4 a5 a6 a7) := by
 intro a0 a1 a2 a3 a4 a5 a6 a7 k
 unfold withylaw13_MetaTells.f
 repeat' first
   | (with_reducible exact meta_Decode.mono _ _)
   | (with_reducible exact meta_Encode.mono _ _ _ _ _ _)
   | (with_reducible exact withylaw13_fixed.mono _)
   | (with_reducible exact withyref13_Decode.mono _ _)
   | (with_reducible exact withyref13_Encode.mono _ _ _ _ _ _)
   | (with_reducible exact LeO.refl _)
   | (with_reducible exact LeO.none _)
   | (with_reducible refine LeO.ite ?_ ?_)
   | (with_reducible refine LeO.bind ?_ (fun _ => ?_))
   | exact meta_Decode.mono _ _
   | exact meta_Encode.mono _ _ _ _ _ _
   | exact withylaw13_fixed.mono _
   | exact withyref13_Decode.mono _ _
   | exact withyref13_Encode.mono _ _ _ _ _ _
   | exact LeO.none _
   | refine LeO.ite ?_ ?_
   | refine LeO.bind ?_ (fun _ => ?_)
def withylaw13_MetaTells.T1 : Bool × List (List Nat × List Nat) := (true, [([], []), ([0], [0]), ([], []), ([2], [2]), ([3], [3]), ([4], [4]), ([1, 5], [1, 5]), ([], []), ([7], [7]), ([], []), ([9], [9]), ([10], [10]), ([11], [11]), ([8, 12], [8, 12]), ([6, 0, 1, 2, 3, 4, 5, 6], [6]), ([13, 14, 0, 1, 2, 3, 4, 5, 6, 7, 8, 9, 10, 11, 12, 13, 14], [13])])
def withylaw13_MetaTells.B1 : List Nat := [0, 1, 0, 4, 12, 28, 63, 0, 128, 0, 512, 1536, 3584, 8064, 127, 32767]
theorem withylaw13_MetaTells.tab1 : rtab .any (opsOf Try.f3 1) = withylaw13_MetaTells.T1 := by kernel_rfl
theorem withylaw13_MetaTells.bits1 : waitsOk withylaw13_MetaTells.T1.2 withylaw13_MetaTells.B1 = true := by kernel_rfl
def withylaw13_MetaTells.T6 : Bool × List (List Nat × List Nat) := (true, [([], []), ([0], [0]), ([], []), ([2, 1], [2]), ([3, 3], [3]), ([1, 4], [1, 4]), ([5, 4], [5]), ([6], [6]), ([6], [6]), ([7, 8, 6], [6, 7, 8]), ([6, 9], [6, 9]), ([10, 6], [10]), ([11], [11]), ([11], [11]), ([12, 13, 11], [11, 12, 13]), ([11, 14], [11, 14]), ([15, 11], [15]), ([16], [16]), ([17, 16, 16], [16, 17]), ([16], [16]), ([18, 19, 16], [16, 18, 19]), ([16, 20], [16, 20]), ([21, 18], [21]), ([22], [22]), ([22], [22]), ([23, 24, 22], [22, 23, 24]), ([22, 25], [22, 25]), ([26, 22], [26]), ([27], [27]), ([27], [27]), ([27], [27]), ([28, 29, 30, 27, 27], [27, 28, 29, 30]), ([27], [27]), ([27], [27]), ([27], [27]), ([32, 33, 34, 31, 27], [27, 32, 33, 34]), ([31, 35, 27], [27, 31, 35]), ([27, 36], [27, 36]), ([37, 35], [37]), ([38, 38], [38]), ([38, 39], [38, 39]), ([40, 39, 0, 1, 2, 3, 4, 5, 6, 7, 8, 9, 10, 11, 12, 13, 14, 15, 16, 17, 18, 19, 20, 21, 22, 23, 24, 25, 26, 27, 28, 29, 30, 31, 32, 33, 34, 35, 36, 37, 38, 39, 40], [40])])
def withylaw13_MetaTells.B6 : List Nat := [0, 1, 0, 7, 15, 31, 63, 127, 127, 511, 1023, 2047, 4095, 4095, 16383, 32767, 65535, 131071, 262143, 131071, 1048575, 2097151, 4194303, 8388607, 8388607, 33554431, 67108863, 134217727, 268435455, 268435455, 268435455, 2147483647, 268435455, 268435455, 268435455, 34359738367, 68719476735, 137438953471, 274877906943, 549755813887, 1099511627775, 2199023255551]
theorem withylaw13_MetaTells.tab6 : rtab .any (opsOf Try.f3 6) = withylaw13_MetaTells.T6 := by kernel_rfl
theorem withylaw13_MetaTells.bits6 : waitsOk withylaw13_MetaTells.T6.2 withylaw13_MetaTells.B6 = true := by kernel_rfl
set_option maxHeartbeats 8000000 in
set_option maxRecDepth 100000 in
theorem withylaw13_MetaTells.calls (k : Nat) (a0_0 : Int) (a0_1 : Int) (a0_2 : Int) (a0_3 : Int) (a0_4 : Int) (a1_0 : ByteArray) (a1_1 : ByteArray) (a2 : Int) (r : Bool) (w : World) (h : withylaw13_MetaTells.f k a0_0 a0_1 a0_2 a0_3 a0_4 a1_0 a1_1 a2 = some r) :
  Calls Try.prog 3 #[.agg #[.int .i64 a0_0, .int .i64 a0_1, .int .i64 a0_2, .int .i64 a0_3, .int .i64 a0_4], .agg #[.string a1_0, .string a1_1], .int .i64 a2] w fun e w' => e = .returned (.bool r) ∧ Below w.heap.size w w' := by
 have hu23 := Try.underlying23
 have hu24 := Try.underlying24
 have hu29 := Try.underlying29
 have HB := as_ (Below.refl w.heap.size w)
 have H : (if 0 ≤ (mn (a1_0.size : Int) 1100) then (if (mn (a1_0.size : Int) 1100) ≤ (a1_0.size : Int) then (if 0 ≤ (mn (a1_1.size : Int) 1100) then (if (mn (a1_1.size : Int) 1100) ≤ (a1_1.size : Int) then ((meta_Encode.f k a0_0 a0_1 a0_2 a0_3 a0_4).bind fun bt290 => ((withylaw13_Ref.f a0_0 a0_1 a0_2 a0_3 a0_4).bind fun bt292 => ((withyref13_Encode.f k bt292.1 bt292.2.1 bt292.2.2.1 bt292.2.2.2.1 bt292.2.2.2.2).bind fun bt297 => ((meta_Decode.f k (a1_0.extract 0 ((mn (a1_0.size : Int) 1100) : Int).toNat)).bind fun bt299 => ((withyref13_Decode.f k (a1_0.extract 0 ((mn (a1_0.size : Int) 1100) : Int).toNat)).bind fun bt306 => ((meta_May.f a0_0 a0_1 a0_2 a0_3 a0_4).bind fun t313 => ((withylaw13_Ref.f a0_0 a0_1 a0_2 a0_3 a0_4).bind fun bt314 => ((withyref13_May.f bt314.1 bt314.2.1 bt314.2.2.1 bt314.2.2.2.1 bt314.2.2.2.2).bind fun t319 => (if (t313 == t319) = true then (if bt290.1.toList = bt297.1.toList then (if bt290.2 = bt297.2 then ((withylaw13_Ref.f bt299.1 bt299.2.1 bt299.2.2.1 bt299.2.2.2.1 bt299.2.2.2.2.1).bind fun bt320 => (if (bt320.1 == bt306.1 && (bt320.2.1 == bt306.2.1 && (bt320.2.2.1 == bt306.2.2.1 && (bt320.2.2.2.1 == bt306.2.2.2.1 && (bt320.2.2.2.2 == bt306.2.2.2.2.1))))) = true then (if bt299.2.2.2.2.2 = bt306.2.2.2.2.2 then ((meta_Tear.f (a1_0.extract 0 ((mn (a1_0.size : Int) 1100) : Int).toNat) (a1_1.extract 0 ((mn (a1_1.size : Int) 1100) : Int).toNat) a2).bind fun t325 => ((withyref13_Tear.f (a1_0.extract 0 ((mn (a1_0.size : Int) 1100) : Int).toNat) (a1_1.extract 0 ((mn (a1_1.size : Int) 1100) : Int).toNat) a2).bind fun t326 => (if t325.toList = t326.toList then ((withylaw13_fixed.f k).bind fun t327 => (some t327)) else (none)))) else (none)) else (none))) else (none)) else (none)) else (none)))))))))) else (none)) else (none)) else (none)) else (none)) = some r := h
 clear h
 obtain ⟨ji4, hji4⟩ : ∃ j_ : Int, (mn (a1_0.size : Int) 1100) = j_ := ⟨_, rfl⟩
 replace H : (if 0 ≤ (ji4) then (if (ji4) ≤ (a1_0.size : Int) then (if 0 ≤ (mn (a1_1.size : Int) 1100) then (if (mn (a1_1.size : Int) 1100) ≤ (a1_1.size : Int) then ((meta_Encode.f k a0_0 a0_1 a0_2 a0_3 a0_4).bind fun bt290 => ((withylaw13_Ref.f a0_0 a0_1 a0_2 a0_3 a0_4).bind fun bt292 => ((withyref13_Encode.f k bt292.1 bt292.2.1 bt292.2.2.1 bt292.2.2.2.1 bt292.2.2.2.2).bind fun bt297 => ((meta_Decode.f k (a1_0.extract 0 ((ji4) : Int).toNat)).bind fun bt299 => ((withyref13_Decode.f k (a1_0.extract 0 ((ji4) : Int).toNat)).bind fun bt306 => ((meta_May.f a0_0 a0_1 a0_2 a0_3 a0_4).bind fun t313 => ((withylaw13_Ref.f a0_0 a0_1 a0_2 a0_3 a0_4).bind fun bt314 => ((withyref13_May.f bt314.1 bt314.2.1 bt314.2.2.1 bt314.2.2.2.1 bt314.2.2.2.2).bind fun t319 => (if (t313 == t319) = true then (if bt290.1.toList = bt297.1.toList then (if bt290.2 = bt297.2 then ((withylaw13_Ref.f bt299.1 bt299.2.1 bt299.2.2.1 bt299.2.2.2.1 bt299.2.2.2.2.1).bind fun bt320 => (if (bt320.1 == bt306.1 && (bt320.2.1 == bt306.2.1 && (bt320.2.2.1 == bt306.2.2.1 && (bt320.2.2.2.1 == bt306.2.2.2.1 && (bt320.2.2.2.2 == bt306.2.2.2.2.1))))) = true then (if bt299.2.2.2.2.2 = bt306.2.2.2.2.2 then ((meta_Tear.f (a1_0.extract 0 ((ji4) : Int).toNat) (a1_1.extract 0 ((mn (a1_1.size : Int) 1100) : Int).toNat) a2).bind fun t325 => ((withyref13_Tear.f (a1_0.extract 0 ((ji4) : Int).toNat) (a1_1.extract 0 ((mn (a1_1.size : Int) 1100) : Int).toNat) a2).bind fun t326 => (if t325.toList = t326.toList then ((withylaw13_fixed.f k).bind fun t327 => (some t327)) else (none)))) else (none)) else (none))) else (none)) else (none)) else (none)))))))))) else (none)) else (none)) else (none)) else (none)) = some r := by first | (rw [hji4] at H; exact H) | (simp only [hji4] at H ⊢; exact H)
 (try (have hji4h : ji4 ≤ 1100 := by (rw [← hji4]; unfold mn; (repeat' split) <;> omega)))
 (try (have hji4g : ji4 ≤ 64 := by omega))
 (try (have hji4l : 0 ≤ ji4 := by (rw [← hji4]; unfold mn; (repeat' split) <;> omega)))
 (try (have hji4m : 0 ≤ ji4 := by omega))
 have hji4_ : (if 1100 < (a1_0.size : Int) then 1100 else (a1_0.size : Int)) = ji4 := hji4
 by_cases c5 : 0 ≤ (ji4)
 rotate_left
 ·rw [if_neg c5] at H
  exact absurd H (by simp)
 
 rw [if_pos c5] at H
 have c5b0 := eq_true c5
 have c5b1 : decide (0 ≤ (ji4)) = true := decide_eq_true c5
 clear c5
 by_cases c6 : (ji4) ≤ (a1_0.size : Int)
 rotate_left
 ·rw [if_neg c6] at H
  exact absurd H (by simp)
 rw [if_pos c6] at H
 have c6b0 := eq_true c6
 have c6b1 : decide ((ji4) ≤ (a1_0.size : Int)) = true := decide_eq_true c6
 clear c6
 obtain ⟨js7, hjs7⟩ : ∃ j_ : ByteArray, (a1_0.extract 0 ((ji4) : Int).toNat) = j_ := ⟨_, rfl⟩
 replace H : (if 0 ≤ (mn (a1_1.size : Int) 1100) then (if (mn (a1_1.size : Int) 1100) ≤ (a1_1.size : Int) then ((meta_Encode.f k a0_0 a0_1 a0_2 a0_3 a0_4).bind fun bt290 => ((withylaw13_Ref.f a0_0 a0_1 a0_2 a0_3 a0_4).bind fun bt292 => ((withyref13_Encode.f k bt292.1 bt292.2.1 bt292.2.2.1 bt292.2.2.2.1 bt292.2.2.2.2).bind fun bt297 => ((meta_Decode.f k (js7)).bind fun bt299 => ((withyref13_Decode.f k (js7)).bind fun bt306 => ((meta_May.f a0_0 a0_1 a0_2 a0_3 a0_4).bind fun t313 => ((withylaw13_Ref.f a0_0 a0_1 a0_2 a0_3 a0_4).bind fun bt314 => ((withyref13_May.f bt314.1 bt314.2.1 bt314.2.2.1 bt314.2.2.2.1 bt314.2.2.2.2).bind fun t319 => (if (t313 == t319) = true then (if bt290.1.toList = bt297.1.toList then (if bt290.2 = bt297.2 then ((withylaw13_Ref.f bt299.1 bt299.2.1 bt299.2.2.1 bt299.2.2.2.1 bt299.2.2.2.2.1).bind fun bt320 => (if (bt320.1 == bt306.1 && (bt320.2.1 == bt306.2.1 && (bt320.2.2.1 == bt306.2.2.1 && (bt320.2.2.2.1 == bt306.2.2.2.1 && (bt320.2.2.2.2 == bt306.2.2.2.2.1))))) = true then (if bt299.2.2.2.2.2 = bt306.2.2.2.2.2 then ((meta_Tear.f (js7) (a1_1.extract 0 ((mn (a1_1.size : Int) 1100) : Int).toNat) a2).bind fun t325 => ((withyref13_Tear.f (js7) (a1_1.extract 0 ((mn (a1_1.size : Int) 1100) : Int).toNat) a2).bind fun t326 => (if t325.toList = t326.toList then ((withylaw13_fixed.f k).bind fun t327 => (some t327)) else (none)))) else (none)) else (none))) else (none)) else (none)) else (none)))))))))) else (none)) else (none)) = some r := by first | (rw [hjs7] at H; exact H) | (simp only [hjs7] at H ⊢; exact H)
 obtain ⟨ji8, hji8⟩ : ∃ j_ : Int, (mn (a1_1.size : Int) 1100) = j_ := ⟨_, rfl⟩
 replace H : (if 0 ≤ (ji8) then (if (ji8) ≤ (a1_1.size : Int) then ((meta_Encode.f k a0_0 a0_1 a0_2 a0_3 a0_4).bind fun bt290 => ((withylaw13_Ref.f a0_0 a0_1 a0_2 a0_3 a0_4).bind fun bt292 => ((withyref13_Encode.f k bt292.1 bt292.2.1 bt292.2.2.1 bt292.2.2.2.1 bt292.2.2.2.2).bind fun bt297 => ((meta_Decode.f k (js7)).bind fun bt299 => ((withyref13_Decode.f k (js7)).bind fun bt306 => ((meta_May.f a0_0 a0_1 a0_2 a0_3 a0_4).bind fun t313 => ((withylaw13_Ref.f a0_0 a0_1 a0_2 a0_3 a0_4).bind fun bt314 => ((withyref13_May.f bt314.1 bt314.2.1 bt314.2.2.1 bt314.2.2.2.1 bt314.2.2.2.2).bind fun t319 => (if (t313 == t319) = true then (if bt290.1.toList = bt297.1.toList then (if bt290.2 = bt297.2 then ((withylaw13_Ref.f bt299.1 bt299.2.1 bt299.2.2.1 bt299.2.2.2.1 bt299.2.2.2.2.1).bind fun bt320 => (if (bt320.1 == bt306.1 && (bt320.2.1 == bt306.2.1 && (bt320.2.2.1 == bt306.2.2.1 && (bt320.2.2.2.1 == bt306.2.2.2.1 && (bt320.2.2.2.2 == bt306.2.2.2.2.1))))) = true then (if bt299.2.2.2.2.2 = bt306.2.2.2.2.2 then ((meta_Tear.f (js7) (a1_1.extract 0 ((ji8) : Int).toNat) a2).bind fun t325 => ((withyref13_Tear.f (js7) (a1_1.extract 0 ((ji8) : Int).toNat) a2).bind fun t326 => (if t325.toList = t326.toList then ((withylaw13_fixed.f k).bind fun t327 => (some t327)) else (none)))) else (none)) else (none))) else (none)) else (none)) else (none)))))))))) else (none)) else (none)) = some r := by first | (rw [hji8] at H; exact H) | (simp only [hji8] at H ⊢; exact H)
 (try (have hji8h : ji8 ≤ 1100 := by (rw [← hji8]; unfold mn; (repeat' split) <;> omega)))
 (try (have hji8g : ji8 ≤ 64 := by omega))
 (try (have hji8l : 0 ≤ ji8 := by (rw [← hji8]; unfold mn; (repeat' split) <;> omega)))
 (try (have hji8m : 0 ≤ ji8 := by omega))
 have hji8_ : (if 1100 < (a1_1.size : Int) then 1100 else (a1_1.size : Int)) = ji8 := hji8
 by_cases c9 : 0 ≤ (ji8)
 rotate_left
 ·rw [if_neg c9] at H
  exact absurd H (by simp)
 rw [if_pos c9] at H
 have c9b0 := eq_true c9
 have c9b1 : decide (0 ≤ (ji8)) = true := decide_eq_true c9
 clear c9
 by_cases c10 : (ji8) ≤ (a1_1.size : Int)
 rotate_left
 ·rw [if_neg c10] at H
  exact absurd H (by simp)
 rw [if_pos c10] at H
 have c10b0 := eq_true c10
 have c10b1 : decide ((ji8) ≤ (a1_1.size : Int)) = true := decide_eq_true c10
 clear c10
 obtain ⟨js11, hjs11⟩ : ∃ j_ : ByteArray, (a1_1.extract 0 ((ji8) : Int).toNat) = j_ := ⟨_, rfl⟩
 replace H : ((meta_Encode.f k a0_0 a0_1 a0_2 a0_3 a0_4).bind fun bt290 => ((withylaw13_Ref.f a0_0 a0_1 a0_2 a0_3 a0_4).bind fun bt292 => ((withyref13_Encode.f k bt292.1 bt292.2.1 bt292.2.2.1 bt292.2.2.2.1 bt292.2.2.2.2).bind fun bt297 => ((meta_Decode.f k (js7)).bind fun bt299 => ((withyref13_Decode.f k (js7)).bind fun bt306 => ((meta_May.f a0_0 a0_1 a0_2 a0_3 a0_4).bind fun t313 => ((withylaw13_Ref.f a0_0 a0_1 a0_2 a0_3 a0_4).bind fun bt314 => ((withyref13_May.f bt314.1 bt314.2.1 bt314.2.2.1 bt314.2.2.2.1 bt314.2.2.2.2).bind fun t319 => (if (t313 == t319) = true then (if bt290.1.toList = bt297.1.toList then (if bt290.2 = bt297.2 then ((withylaw13_Ref.f bt299.1 bt299.2.1 bt299.2.2.1 bt299.2.2.2.1 bt299.2.2.2.2.1).bind fun bt320 => (if (bt320.1 == bt306.1 && (bt320.2.1 == bt306.2.1 && (bt320.2.2.1 == bt306.2.2.1 && (bt320.2.2.2.1 == bt306.2.2.2.1 && (bt320.2.2.2.2 == bt306.2.2.2.2.1))))) = true then (if bt299.2.2.2.2.2 = bt306.2.2.2.2.2 then ((meta_Tear.f (js7) (js11) a2).bind fun t325 => ((withyref13_Tear.f (js7) (js11) a2).bind fun t326 => (if t325.toList = t326.toList then ((withylaw13_fixed.f k).bind fun t327 => (some t327)) else (none)))) else (none)) else (none))) else (none)) else (none)) else (none)))))))))) = some r := by first | (rw [hjs11] at H; exact H) | (simp only [hjs11] at H ⊢; exact H)
 replace H := bM H
 obtain ⟨⟨t290, t291⟩, A120, H⟩ := H
 replace H : ((withylaw13_Ref.f a0_0 a0_1 a0_2 a0_3 a0_4).bind fun bt292 => ((withyref13_Encode.f k bt292.1 bt292.2.1 bt292.2.2.1 bt292.2.2.2.1 bt292.2.2.2.2).bind fun bt297 => ((meta_Decode.f k (js7)).bind fun bt299 => ((withyref13_Decode.f k (js7)).bind fun bt306 => ((meta_May.f a0_0 a0_1 a0_2 a0_3 a0_4).bind fun t313 => ((withylaw13_Ref.f a0_0 a0_1 a0_2 a0_3 a0_4).bind fun bt314 => ((withyref13_May.f bt314.1 bt314.2.1 bt314.2.2.1 bt314.2.2.2.1 bt314.2.2.2.2).bind fun t319 => (if (t313 == t319) = true then (if t290.toList = bt297.1.toList then (if t291 = bt297.2 then ((withylaw13_Ref.f bt299.1 bt299.2.1 bt299.2.2.1 bt299.2.2.2.1 bt299.2.2.2.2.1).bind fun bt320 => (if (bt320.1 == bt306.1 && (bt320.2.1 == bt306.2.1 && (bt320.2.2.1 == bt306.2.2.1 && (bt320.2.2.2.1 == bt306.2.2.2.1 && (bt320.2.2.2.2 == bt306.2.2.2.2.1))))) = true then (if bt299.2.2.2.2.2 = bt306.2.2.2.2.2 then ((meta_Tear.f (js7) (js11) a2).bind fun t325 => ((withyref13_Tear.f (js7) (js11) a2).bind fun t326 => (if t325.toList = t326.toList then ((withylaw13_fixed.f k).bind fun t327 => (some t327)) else (none)))) else (none)) else (none))) else (none)) else (none)) else (none))))))))) = some r := H
 have A12 := Aside0.mk A120
 clear A120
 replace H := bM H
 obtain ⟨⟨t292, t293, t294, t295, t296⟩, A130, H⟩ := H
 replace H : ((withyref13_Encode.f k t292 t293 t294 t295 t296).bind fun bt297 => ((meta_Decode.f k (js7)).bind fun bt299 => ((withyref13_Decode.f k (js7)).bind fun bt306 => ((meta_May.f a0_0 a0_1 a0_2 a0_3 a0_4).bind fun t313 => ((withylaw13_Ref.f a0_0 a0_1 a0_2 a0_3 a0_4).bind fun bt314 => ((withyref13_May.f bt314.1 bt314.2.1 bt314.2.2.1 bt314.2.2.2.1 bt314.2.2.2.2).bind fun t319 => (if (t313 == t319) = true then (if t290.toList = bt297.1.toList then (if t291 = bt297.2 then ((withylaw13_Ref.f bt299.1 bt299.2.1 bt299.2.2.1 bt299.2.2.2.1 bt299.2.2.2.2.1).bind fun bt320 => (if (bt320.1 == bt306.1 && (bt320.2.1 == bt306.2.1 && (bt320.2.2.1 == bt306.2.2.1 && (bt320.2.2.2.1 == bt306.2.2.2.1 && (bt320.2.2.2.2 == bt306.2.2.2.2.1))))) = true then (if bt299.2.2.2.2.2 = bt306.2.2.2.2.2 then ((meta_Tear.f (js7) (js11) a2).bind fun t325 => ((withyref13_Tear.f (js7) (js11) a2).bind fun t326 => (if t325.toList = t326.toList then ((withylaw13_fixed.f k).bind fun t327 => (some t327)) else (none)))) else (none)) else (none))) else (none)) else (none)) else (none)))))))) = some r := H
 have A13 := Aside0.mk A130
 clear A130
 replace H := bM H
 obtain ⟨⟨t297, t298⟩, A140, H⟩ := H
 replace H : ((meta_Decode.f k (js7)).bind fun bt299 => ((withyref13_Decode.f k (js7)).bind fun bt306 => ((meta_May.f a0_0 a0_1 a0_2 a0_3 a0_4).bind fun t313 => ((withylaw13_Ref.f a0_0 a0_1 a0_2 a0_3 a0_4).bind fun bt314 => ((withyref13_May.f bt314.1 bt314.2.1 bt314.2.2.1 bt314.2.2.2.1 bt314.2.2.2.2).bind fun t319 => (if (t313 == t319) = true then (if t290.toList = t297.toList then (if t291 = t298 then ((withylaw13_Ref.f bt299.1 bt299.2.1 bt299.2.2.1 bt299.2.2.2.1 bt299.2.2.2.2.1).bind fun bt320 => (if (bt320.1 == bt306.1 && (bt320.2.1 == bt306.2.1 && (bt320.2.2.1 == bt306.2.2.1 && (bt320.2.2.2.1 == bt306.2.2.2.1 && (bt320.2.2.2.2 == bt306.2.2.2.2.1))))) = true then (if bt299.2.2.2.2.2 = bt306.2.2.2.2.2 then ((meta_Tear.f (js7) (js11) a2).bind fun t325 => ((withyref13_Tear.f (js7) (js11) a2).bind fun t326 => (if t325.toList = t326.toList then ((withylaw13_fixed.f k).bind fun t327 => (some t327)) else (none)))) else (none)) else (none))) else (none)) else (none)) else (none))))))) = some r := H
 have A14 := Aside0.mk A140
 clear A140
 replace H := bM H
 obtain ⟨⟨t299, t300, t301, t302, t303, t304⟩, A150, H⟩ := H
 replace H : ((withyref13_Decode.f k (js7)).bind fun bt306 => ((meta_May.f a0_0 a0_1 a0_2 a0_3 a0_4).bind fun t313 => ((withylaw13_Ref.f a0_0 a0_1 a0_2 a0_3 a0_4).bind fun bt314 => ((withyref13_May.f bt314.1 bt314.2.1 bt314.2.2.1 bt314.2.2.2.1 bt314.2.2.2.2).bind fun t319 => (if (t313 == t319) = true then (if t290.toList = t297.toList then (if t291 = t298 then ((withylaw13_Ref.f t299 t300 t301 t302 t303).bind fun bt320 => (if (bt320.1 == bt306.1 && (bt320.2.1 == bt306.2.1 && (bt320.2.2.1 == bt306.2.2.1 && (bt320.2.2.2.1 == bt306.2.2.2.1 && (bt320.2.2.2.2 == bt306.2.2.2.2.1))))) = true then (if t304 = bt306.2.2.2.2.2 then ((meta_Tear.f (js7) (js11) a2).bind fun t325 => ((withyref13_Tear.f (js7) (js11) a2).bind fun t326 => (if t325.toList = t326.toList then ((withylaw13_fixed.f k).bind fun t327 => (some t327)) else (none)))) else (none)) else (none))) else (none)) else (none)) else (none)))))) = some r := H
 have A15 := Aside0.mk A150
 clear A150
 replace H := bM H
 obtain ⟨⟨t306, t307, t308, t309, t310, t311⟩, A160, H⟩ := H
 replace H : ((meta_May.f a0_0 a0_1 a0_2 a0_3 a0_4).bind fun t313 => ((withylaw13_Ref.f a0_0 a0_1 a0_2 a0_3 a0_4).bind fun bt314 => ((withyref13_May.f bt314.1 bt314.2.1 bt314.2.2.1 bt314.2.2.2.1 bt314.2.2.2.2).bind fun t319 => (if (t313 == t319) = true then (if t290.toList = t297.toList then (if t291 = t298 then ((withylaw13_Ref.f t299 t300 t301 t302 t303).bind fun bt320 => (if (bt320.1 == t306 && (bt320.2.1 == t307 && (bt320.2.2.1 == t308 && (bt320.2.2.2.1 == t309 && (bt320.2.2.2.2 == t310))))) = true then (if t304 = t311 then ((meta_Tear.f (js7) (js11) a2).bind fun t325 => ((withyref13_Tear.f (js7) (js11) a2).bind fun t326 => (if t325.toList = t326.toList then ((withylaw13_fixed.f k).bind fun t327 => (some t327)) else (none)))) else (none)) else (none))) else (none)) else (none)) else (none))))) = some r := H
 have A16 := Aside0.mk A160
 clear A160
 replace H := bM H
 obtain ⟨t313, A170, H⟩ := H
 replace H : ((withylaw13_Ref.f a0_0 a0_1 a0_2 a0_3 a0_4).bind fun bt314 => ((withyref13_May.f bt314.1 bt314.2.1 bt314.2.2.1 bt314.2.2.2.1 bt314.2.2.2.2).bind fun t319 => (if (t313 == t319) = true then (if t290.toList = t297.toList then (if t291 = t298 then ((withylaw13_Ref.f t299 t300 t301 t302 t303).bind fun bt320 => (if (bt320.1 == t306 && (bt320.2.1 == t307 && (bt320.2.2.1 == t308 && (bt320.2.2.2.1 == t309 && (bt320.2.2.2.2 == t310))))) = true then (if t304 = t311 then ((meta_Tear.f (js7) (js11) a2).bind fun t325 => ((withyref13_Tear.f (js7) (js11) a2).bind fun t326 => (if t325.toList = t326.toList then ((withylaw13_fixed.f k).bind fun t327 => (some t327)) else (none)))) else (none)) else (none))) else (none)) else (none)) else (none)))) = some r := H
 have A17 := Aside0.mk A170
 clear A170
 replace H := bM H
 obtain ⟨⟨t314, t315, t316, t317, t318⟩, A180, H⟩ := H
 replace H : ((withyref13_May.f t314 t315 t316 t317 t318).bind fun t319 => (if (t313 == t319) = true then (if t290.toList = t297.toList then (if t291 = t298 then ((withylaw13_Ref.f t299 t300 t301 t302 t303).bind fun bt320 => (if (bt320.1 == t306 && (bt320.2.1 == t307 && (bt320.2.2.1 == t308 && (bt320.2.2.2.1 == t309 && (bt320.2.2.2.2 == t310))))) = true then (if t304 = t311 then ((meta_Tear.f (js7) (js11) a2).bind fun t325 => ((withyref13_Tear.f (js7) (js11) a2).bind fun t326 => (if t325.toList = t326.toList then ((withylaw13_fixed.f k).bind fun t327 => (some t327)) else (none)))) else (none)) else (none))) else (none)) else (none)) else (none))) = some r := H
 have A18 := Aside0.mk A180
 clear A180
 replace H := bM H
 obtain ⟨t319, A190, H⟩ := H
 replace H : (if (t313 == t319) = true then (if t290.toList = t297.toList then (if t291 = t298 then ((withylaw13_Ref.f t299 t300 t301 t302 t303).bind fun bt320 => (if (bt320.1 == t306 && (bt320.2.1 == t307 && (bt320.2.2.1 == t308 && (bt320.2.2.2.1 == t309 && (bt320.2.2.2.2 == t310))))) = true then (if t304 = t311 then ((meta_Tear.f (js7) (js11) a2).bind fun t325 => ((withyref13_Tear.f (js7) (js11) a2).bind fun t326 => (if t325.toList = t326.toList then ((withylaw13_fixed.f k).bind fun t327 => (some t327)) else (none)))) else (none)) else (none))) else (none)) else (none)) else (none)) = some r := H
 have A19 := Aside0.mk A190
 clear A190
 by_cases c20 : (t313 == t319) = true
 rotate_left
 ·rw [if_neg c20] at H
  exact absurd H (by simp)
 rw [if_pos c20] at H
 have c20b0 : (t313 == t319) = true := c20
 (try (have c20b1 : t313 = t319 := by simpa using c20))
 (try (have c20b2 : decide (t313 = t319) = true := by simpa using c20))
 (try (have c20b3 : (t313 == t319) = true := by simpa using c20))
 clear c20
 by_cases c21 : t290.toList = t297.toList
 rotate_left
 ·rw [if_neg c21] at H
  exact absurd H (by simp)
 rw [if_pos c21] at H
 have c21b0 : (t290.toList == t297.toList) = true := beq_iff_eq.mpr c21
 have c21b1 : (t290.toList != t297.toList) = false := bne_eq_false_iff_eq.mpr c21
 clear c21
 by_cases c22 : t291 = t298
 rotate_left
 ·rw [if_neg c22] at H
  exact absurd H (by simp)
 rw [if_pos c22] at H
 have c22b0 : (t291 == t298) = true := beq_iff_eq.mpr c22
 have c22b1 : (t291 != t298) = false := bne_eq_false_iff_eq.mpr c22
 clear c22
 replace H := bM H
 obtain ⟨⟨t320, t321, t322, t323, t324⟩, A230, H⟩ := H
 replace H : (if (t320 == t306 && (t321 == t307 && (t322 == t308 && (t323 == t309 && (t324 == t310))))) = true then (if t304 = t311 then ((meta_Tear.f (js7) (js11) a2).bind fun t325 => ((withyref13_Tear.f (js7) (js11) a2).bind fun t326 => (if t325.toList = t326.toList then ((withylaw13_fixed.f k).bind fun t327 => (some t327)) else (none)))) else (none)) else (none)) = some r := H
 have A23 := Aside0.mk A230
 clear A230
 by_cases c24 : (t320 == t306 && (t321 == t307 && (t322 == t308 && (t323 == t309 && (t324 == t310))))) = true
 rotate_left
 ·rw [if_neg c24] at H
  exact absurd H (by simp)
 rw [if_pos c24] at H
 have c24b0 : (t320 == t306 && (t321 == t307 && (t322 == t308 && (t323 == t309 && (t324 == t310))))) = true := c24
 (try (have c24b1 : t320 = t306 && (t321 == t307 && (t322 == t308 && (t323 == t309 && (t324 == t310)))) := by simpa using c24))
 (try (have c24b2 : decide (t320 = t306 && (t321 == t307 && (t322 == t308 && (t323 == t309 && (t324 == t310))))) = true := by simpa using c24))
 (try (have c24b3 : (t320 == t306 && (t321 == t307 && (t322 == t308 && (t323 == t309 && (t324 == t310))))) = true := by simpa using c24))
 clear c24
 by_cases c25 : t304 = t311
 rotate_left
 ·rw [if_neg c25] at H
  exact absurd H (by simp)
 rw [if_pos c25] at H
 have c25b0 : (t304 == t311) = true := beq_iff_eq.mpr c25
 have c25b1 : (t304 != t311) = false := bne_eq_false_iff_eq.mpr c25
 clear c25
 replace H := bM H
 obtain ⟨t325, A260, H⟩ := H
 replace H : ((withyref13_Tear.f (js7) (js11) a2).bind fun t326 => (if t325.toList = t326.toList then ((withylaw13_fixed.f k).bind fun t327 => (some t327)) else (none))) = some r := H
 have A26 := Aside0.mk A260
 clear A260
 replace H := bM H
 obtain ⟨t326, A270, H⟩ := H
 replace H : (if t325.toList = t326.toList then ((withylaw13_fixed.f k).bind fun t327 => (some t327)) else (none)) = some r := H
 have A27 := Aside0.mk A270
 clear A270
 by_cases c28 : t325.toList = t326.toList
 rotate_left
 ·rw [if_neg c28] at H
  exact absurd H (by simp)
 rw [if_pos c28] at H
 have c28b0 : (t325.toList == t326.toList) = true := beq_iff_eq.mpr c28
 have c28b1 : (t325.toList != t326.toList) = false := bne_eq_false_iff_eq.mpr c28
 clear c28
 replace H := bM H
 obtain ⟨t327, A290, H⟩ := H
 replace H : (some t327) = some r := H
 have A29 := Aside0.mk A290
 clear A290
 obtain rfl := Option.some.inj H
 go_enter Try.func3, Try.ntmps3
 (try simp only [List.append_eq, List.cons_append, List.nil_append])
 try go_wp2_with (first | ((with_reducible refine gate_dst (N := 3) rfl ?_); refine box_event (by rfl) (N := 3) (by rfl) (cs := #[.int .i64 a0_0, .int .i64 a0_1, .int .i64 a0_2, .int .i64 a0_3, .int .i64 a0_4]) (t := 23) gS ?_; intro gb288 hg w30 hbox hb; have BK288 := as_ (hbox); have GW288 := gw hg bA; have GE288 := gw hg bA; replace HB := as_ (below_step bA hb); clear hb hbox hg) | ((with_reducible refine gate_dst (N := 4) rfl ?_); refine box_event (by rfl) (N := 4) (by rfl) (cs := #[.string a1_0, .string a1_1]) (t := 24) gS ?_; intro gb289 hg w31 hbox hb; have BK289 := as_ (hbox); have GW289 := gw hg bA; have GE289 := gw hg bA; have NB288_289 := nl BK288 hg; have NB289_288 := ng BK288 hg; replace BK288 := bb BK288 hb; replace HB := as_ (below_step bA hb); clear hb hbox hg))
 replace BK288 := as_ (blk_drew BK288.out)
 replace BK289 := as_ (blk_drew BK289.out)
 replace HB := as_ (below_drew1 HB.out)
 refine start_ (n := 16) (S := fun w' => w'.cell? ⟨gb289, 0, none⟩ = some (.string a1_0) ∧ w'.cell? ⟨gb289, 1, none⟩ = some (.string a1_1)) (ds := []) #[ff, ff, ff, ff, ff, ff, ff, ff, ff, ff, ff, ff, ff, ff, ff, ff] (by kernel_rfl) rfl rfl ⟨(blk_cell BK289.out 0).trans rfl, (blk_cell BK289.out 1).trans rfl⟩ (fun hHeld => ?_); refine with_tabW withylaw13_MetaTells.tab1 withylaw13_MetaTells.bits1 (fun HT_ HW_ => ?_)
 generalize w31.drew = w32 at BK288 BK289 HB hHeld ⊢
 refine pure_ (i := 0) (N := some 17) (v := ?_) (a' := ?_) #[tt, ff, ff, ff, ff, ff, ff, ff, ff, ff, ff, ff, ff, ff, ff, ff] rfl rfl (any_of HT_.out (by kernel_rfl)) (fun _ _ _ h => h) (Or.inl ⟨by rfl, ?_⟩) ?_ ?_
 rotate_left
 ·intro w'
  go_simp
  with_reducible rfl
 rotate_left
 ·exact aP
 refine pure_ (i := 2) (N := some 19) (v := ?_) (a' := ?_) #[tt, ff, tt, ff, ff, ff, ff, ff, ff, ff, ff, ff, ff, ff, ff, ff] rfl rfl (any_of HT_.out (by kernel_rfl)) (fun _ _ _ h => h) (Or.inl ⟨by rfl, ?_⟩) ?_ ?_
 rotate_left
 ·intro w'
  go_simp
  with_reducible rfl
 rotate_left
 ·exact aP
 refine pure_ (i := 7) (N := some 24) (v := ?_) (a' := ?_) #[tt, ff, tt, ff, ff, ff, ff, tt, ff, ff, ff, ff, ff, ff, ff, ff] rfl rfl (any_of HT_.out (by kernel_rfl)) (fun _ _ _ h => h) (Or.inl ⟨by rfl, ?_⟩) ?_ ?_
 rotate_left
 ·intro w'
  go_simp
  with_reducible rfl
 rotate_left
 ·exact aP
 refine pure_ (i := 9) (N := some 26) (v := ?_) (a' := ?_) #[tt, ff, tt, ff, ff, ff, ff, tt, ff, tt, ff, ff, ff, ff, ff, ff] rfl rfl (any_of HT_.out (by kernel_rfl)) (fun _ _ _ h => h) (Or.inl ⟨by rfl, ?_⟩) ?_ ?_
 rotate_left
 ·intro w'
  go_simp
  with_reducible rfl
 rotate_left
 ·exact aP
 refine take_ (i := 1) (N := some 18) (v := ?_) (a' := ?_) #[tt, tt, tt, ff, ff, ff, ff, tt, ff, tt, ff, ff, ff, ff, ff, ff] rfl rfl (take_ofW HT_.out HW_.out (by kernel_rfl)) (fun _ _ _ h => h) (Or.inl ⟨by rfl, ?_⟩) hHeld ?_ ?_
 rotate_left
 ·rintro w' ⟨s0, s1⟩
  go_simp
  with_reducible rfl
 rotate_left
 ·exact aP
 refine take_ (i := 3) (N := some 20) (v := ?_) (a' := ?_) #[tt, tt, tt, tt, ff, ff, ff, tt, ff, tt, ff, ff, ff, ff, ff, ff] rfl rfl (take_ofW HT_.out HW_.out (by kernel_rfl)) (fun _ _ _ h => h) (Or.inl ⟨by rfl, ?_⟩) hHeld ?_ ?_
 rotate_left
 ·rintro w' ⟨s0, s1⟩
  go_simp
  with_reducible rfl
 rotate_left
 ·exact aP
 refine pure_ (i := 4) (N := some 21) (v := ?_) (a' := ?_) #[tt, tt, tt, tt, tt, ff, ff, tt, ff, tt, ff, ff, ff, ff, ff, ff] rfl rfl (any_of HT_.out (by kernel_rfl)) (fun _ _ _ h => h) (Or.inl ⟨by rfl, ?_⟩) ?_ ?_
 rotate_left
 ·intro w'
  go_simp
  with_reducible rfl
 rotate_left
 ·exact aP
 refine pure_ (i := 5) (N := some 22) (v := ?_) (a' := ?_) #[tt, tt, tt, tt, tt, tt, ff, tt, ff, tt, ff, ff, ff, ff, ff, ff] rfl rfl (any_of HT_.out (by kernel_rfl)) (fun _ _ _ h => h) (Or.inl ⟨by rfl, ?_⟩) ?_ ?_
 rotate_left
 ·intro w'
  go_simp
  with_reducible rfl
 rotate_left
 ·exact aP
 refine pure_ (i := 6) (N := some 23) (v := ?_) (a' := ?_) #[tt, tt, tt, tt, tt, tt, tt, tt, ff, tt, ff, ff, ff, ff, ff, ff] rfl rfl (any_of HT_.out (by kernel_rfl)) (fun _ _ _ h => h) (Or.inl ⟨by rfl, ?_⟩) ?_ ?_
 rotate_left
 ·intro w'
  go_simp
  with_reducible rfl
 rotate_left
 ·exact aP
 refine pure_ (i := 14) (N := some 7) (v := ?_) (a' := ?_) #[tt, tt, tt, tt, tt, tt, tt, tt, ff, tt, ff, ff, ff, ff, tt, ff] rfl rfl (any_of HT_.out (by kernel_rfl)) (fun _ _ _ h => h) (Or.inl ⟨by rfl, ?_⟩) ?_ ?_
 rotate_left
 ·intro w'
  go_simp
  with_reducible rfl
 rotate_left
 ·exact aP
 refine take_ (i := 8) (N := some 25) (v := ?_) (a' := ?_) #[tt, tt, tt, tt, tt, tt, tt, tt, tt, tt, ff, ff, ff, ff, tt, ff] rfl rfl (take_ofW HT_.out HW_.out (by kernel_rfl)) (fun _ _ _ h => h) (Or.inl ⟨by rfl, ?_⟩) hHeld ?_ ?_
 rotate_left
 ·rintro w' ⟨s0, s1⟩
  go_simp
  with_reducible rfl
 rotate_left
 ·exact aP
 refine take_ (i := 10) (N := some 27) (v := ?_) (a' := ?_) #[tt, tt, tt, tt, tt, tt, tt, tt, tt, tt, tt, ff, ff, ff, tt, ff] rfl rfl (take_ofW HT_.out HW_.out (by kernel_rfl)) (fun _ _ _ h => h) (Or.inl ⟨by rfl, ?_⟩) hHeld ?_ ?_
 rotate_left
 ·rintro w' ⟨s0, s1⟩
  go_simp
  with_reducible rfl
 rotate_left
 ·exact aP
 refine pure_ (i := 11) (N := some 28) (v := ?_) (a' := ?_) #[tt, tt, tt, tt, tt, tt, tt, tt, tt, tt, tt, tt, ff, ff, tt, ff] rfl rfl (any_of HT_.out (by kernel_rfl)) (fun _ _ _ h => h) (Or.inl ⟨by rfl, ?_⟩) ?_ ?_
 rotate_left
 ·intro w'
  go_simp
  with_reducible rfl
 rotate_left
 ·exact aP
 refine pure_ (i := 12) (N := some 29) (v := ?_) (a' := ?_) #[tt, tt, tt, tt, tt, tt, tt, tt, tt, tt, tt, tt, tt, ff, tt, ff] rfl rfl (any_of HT_.out (by kernel_rfl)) (fun _ _ _ h => h) (Or.inl ⟨by rfl, ?_⟩) ?_ ?_
 rotate_left
 ·intro w'
  go_simp
  with_reducible rfl
 rotate_left
 ·exact aP
 refine pure_ (i := 13) (N := some 30) (v := ?_) (a' := ?_) #[tt, tt, tt, tt, tt, tt, tt, tt, tt, tt, tt, tt, tt, tt, tt, ff] rfl rfl (any_of HT_.out (by kernel_rfl)) (fun _ _ _ h => h) (Or.inl ⟨by rfl, ?_⟩) ?_ ?_
 rotate_left
 ·intro w'
  go_simp
  with_reducible rfl
 rotate_left
 ·exact aP
 refine pure_ (i := 15) (N := some 8) (v := ?_) (a' := ?_) #[tt, tt, tt, tt, tt, tt, tt, tt, tt, tt, tt, tt, tt, tt, tt, tt] rfl rfl (any_of HT_.out (by kernel_rfl)) (fun _ _ _ h => h) (Or.inl ⟨by rfl, ?_⟩) ?_ ?_
 rotate_left
 ·intro w'
  go_simp
  with_reducible rfl
 rotate_left
 ·exact aP
 refine done_ (done_of HT_.out (by kernel_rfl)) ?_
 have hnb33 := NB288_289.out
 have hnc33 := NB289_288.out
 obtain ⟨hcz34_0, hcz34_1, hcz34_2, hcz34_3, hcz34_4⟩ := zc5 BK288
 obtain ⟨hfz34_0, hfz34_1, hfz34_2, hfz34_3, hfz34_4⟩ := zf5 BK288
 try go_wp2_with (first | ((with_reducible refine gate_callee (f := 9) rfl ?_); refine goesL_ (some 33) rfl rfl Try.func9 (by kernel_rfl) rfl #[.agg #[.int .i64 a0_0, .int .i64 a0_1, .int .i64 a0_2, .int .i64 a0_3, .int .i64 a0_4]] rfl aO ?_; (with_reducible refine (meta_Encode.calls k a0_0 a0_1 a0_2 a0_3 a0_4 t290 t291 _ A12.out).mono ?_); rintro e w35 ⟨rfl, hb⟩; refine ⟨_, rfl, ?_⟩; replace BK288 := bb BK288 hb; replace BK289 := bb BK289 hb; replace HB := as_ (below_step bA hb); (try clear hb); (try clear hb2); (try clear hk); (try clear hi); obtain ⟨hcz36_0, hcz36_1, hcz36_2, hcz36_3, hcz36_4⟩ := zc5 BK288; obtain ⟨hfz36_0, hfz36_1, hfz36_2, hfz36_3, hfz36_4⟩ := zf5 BK288) | ((with_reducible refine gate_callee (f := 11) rfl ?_); refine goesL_ (some 38) rfl rfl Try.func11 (by kernel_rfl) rfl #[.agg #[.int .i64 a0_0, .int .i64 a0_1, .int .i64 a0_2, .int .i64 a0_3, .int .i64 a0_4]] rfl aO ?_; (with_reducible refine (withylaw13_Ref.calls a0_0 a0_1 a0_2 a0_3 a0_4 t292 t293 t294 t295 t296 _ A13.out).mono ?_); rintro e w37 ⟨rfl, hb⟩; refine ⟨_, rfl, ?_⟩; replace BK288 := bb BK288 hb; replace BK289 := bb BK289 hb; replace HB := as_ (below_step bA hb); (try clear hb); (try clear hb2); (try clear hk); (try clear hi)) | ((with_reducible refine gate_callee (f := 10) rfl ?_); refine goesL_ (some 39) rfl rfl Try.func10 (by kernel_rfl) rfl #[.agg #[.int .i64 t292, .int .i64 t293, .int .i64 t294, .int .i64 t295, .int .i64 t296]] rfl aO ?_; (with_reducible refine (withyref13_Encode.calls k t292 t293 t294 t295 t296 t297 t298 _ A14.out).mono ?_); rintro e w38 ⟨rfl, hb⟩; refine ⟨_, rfl, ?_⟩; replace BK288 := bb BK288 hb; replace BK289 := bb BK289 hb; replace HB := as_ (below_step bA hb); (try clear hb); (try clear hb2); (try clear hk); (try clear hi)) | ((with_reducible refine gate_callee (f := 12) rfl ?_); refine goesL_ (some 44) rfl rfl Try.func12 (by kernel_rfl) rfl #[.string js7] rfl aO ?_; (with_reducible refine (meta_Decode.calls k js7 t299 t300 t301 t302 t303 t304 _ A15.out).mono ?_); rintro e w39 ⟨rfl, hb⟩; refine ⟨_, rfl, ?_⟩; replace BK288 := bb BK288 hb; replace BK289 := bb BK289 hb; replace HB := as_ (below_step bA hb); (try clear hb); (try clear hb2); (try clear hk); (try clear hi)) | ((with_reducible refine gate_dst (N := 13) rfl ?_); refine box_event (by rfl) (N := 13) (by rfl) (cs := #[.int .i64 0, .int .i64 0, .int .i64 0, .int .i64 0, .int .i64 0]) (t := 23) gS ?_; intro gb305 hg w40 hbox hb; have BK305 := as_ (hbox); have GW305 := gw hg bA; have GE305 := gw hg bA; have NB288_305 := nl BK288 hg; have NB305_288 := ng BK288 hg; have NB289_305 := nl BK289 hg; have NB305_289 := ng BK289 hg; replace BK288 := bb BK288 hb; replace BK289 := bb BK289 hb; replace HB := as_ (below_step bA hb); clear hb hbox hg; have hnb41 := NB305_288.out; have hnc41 := NB288_305.out; have hnb42 := NB305_289.out; have hnc42 := NB289_305.out; obtain ⟨hcz43_0, hcz43_1, hcz43_2, hcz43_3, hcz43_4⟩ := zc5 BK305; obtain ⟨hfz43_0, hfz43_1, hfz43_2, hfz43_3, hfz43_4⟩ := zf5 BK305) | ((with_reducible refine gate_callee (f := 13) rfl ?_); refine goesL_ (some 49) rfl rfl Try.func13 (by kernel_rfl) rfl #[.string js7] rfl aO ?_; (with_reducible refine (withyref13_Decode.calls k js7 t306 t307 t308 t309 t310 t311 _ A16.out).mono ?_); rintro e w44 ⟨rfl, hb⟩; refine ⟨_, rfl, ?_⟩; have n0_ := as_ (blk_below (g := gb288) (o := .cells #[.int .i64 a0_0, .int .i64 a0_1, .int .i64 a0_2, .int .i64 a0_3, .int .i64 a0_4] 23 (0, 0)) (by refine bx ?_; refine blk_far ?_ NB288_305.out _; refine bx ?_; refine blk_far ?_ NB288_305.out _; refine bx ?_; refine blk_far ?_ NB288_305.out _; refine bx ?_; refine blk_far ?_ NB288_305.out _; refine bx ?_; refine blk_far ?_ NB288_305.out _; refine bx ?_; exact BK288.out) hb); have n1_ := as_ (blk_below (g := gb289) (o := .cells #[.string a1_0, .string a1_1] 24 (0, 0)) (by refine bx ?_; refine blk_far ?_ NB289_305.out _; refine bx ?_; refine blk_far ?_ NB289_305.out _; refine bx ?_; refine blk_far ?_ NB289_305.out _; refine bx ?_; refine blk_far ?_ NB289_305.out _; refine bx ?_; refine blk_far ?_ NB289_305.out _; refine bx ?_; exact BK289.out) hb); have n2_ := as_ (blk_below (g := gb305) (o := .cells #[.int .i64 t299, .int .i64 t300, .int .i64 t301, .int .i64 t302, .int .i64 t303] 23 (0, 0)) (by refine bx ?_; refine blk_put (cs := #[.int .i64 t299, .int .i64 t300, .int .i64 t301, .int .i64 t302, .int .i64 0]) ?_ 4 _ rfl; refine bx ?_; refine blk_put (cs := #[.int .i64 t299, .int .i64 t300, .int .i64 t301, .int .i64 0, .int .i64 0]) ?_ 3 _ rfl; refine bx ?_; refine blk_put (cs := #[.int .i64 t299, .int .i64 t300, .int .i64 0, .int .i64 0, .int .i64 0]) ?_ 2 _ rfl; refine bx ?_; refine blk_put (cs := #[.int .i64 t299, .int .i64 0, .int .i64 0, .int .i64 0, .int .i64 0]) ?_ 1 _ rfl; refine bx ?_; refine blk_put (cs := #[.int .i64 0, .int .i64 0, .int .i64 0, .int .i64 0, .int .i64 0]) ?_ 0 _ rfl; refine bx ?_; exact BK305.out) hb); have n3_ := as_ (below_step bA hb); clear BK288; clear BK289; clear BK305; clear HB; have BK288 := n0_; have BK289 := n1_; have BK305 := n2_; have HB := n3_; clear n0_ n1_ n2_ n3_; (try clear hb); (try clear hb2); (try clear hk); (try clear hi)) | ((with_reducible refine gate_dst (N := 15) rfl ?_); refine box_event (by rfl) (N := 15) (by rfl) (cs := #[.int .i64 0, .int .i64 0, .int .i64 0, .int .i64 0, .int .i64 0]) (t := 29) gS ?_; intro gb312 hg w45 hbox hb; have BK312 := as_ (hbox); have GW312 := gw hg bA; have GE312 := gw hg bA; have NB288_312 := nl BK288 hg; have NB312_288 := ng BK288 hg; have NB289_312 := nl BK289 hg; have NB312_289 := ng BK289 hg; have NB305_312 := nl BK305 hg; have NB312_305 := ng BK305 hg; replace BK288 := bb BK288 hb; replace BK289 := bb BK289 hb; replace BK305 := bb BK305 hb; replace HB := as_ (below_step bA hb); clear hb hbox hg; have hnb46 := NB312_288.out; have hnc46 := NB288_312.out; have hnb47 := NB312_289.out; have hnc47 := NB289_312.out; have hnb48 := NB312_305.out; have hnc48 := NB305_312.out; obtain ⟨hcz49_0, hcz49_1, hcz49_2, hcz49_3, hcz49_4⟩ := zc5 BK312; obtain ⟨hfz49_0, hfz49_1, hfz49_2, hfz49_3, hfz49_4⟩ := zf5 BK312))
 have n0_ : Aside0 ((((((w45.setCell ⟨gb312, 0, none⟩ (.int .i64 t306)).setCell ⟨gb312, 1, none⟩ (.int .i64 t307)).setCell ⟨gb312, 2, none⟩ (.int .i64 t308)).setCell ⟨gb312, 3, none⟩ (.int .i64 t309)).setCell ⟨gb312, 4, none⟩ (.int .i64 t310)).heap[gb288]? = some (.cells #[.int .i64 a0_0, .int .i64 a0_1, .int .i64 a0_2, .int .i64 a0_3, .int .i64 a0_4] 23 (0, 0))) := ⟨by refine bx ?_; refine blk_far ?_ NB288_312.out _; refine bx ?_; refine blk_far ?_ NB288_312.out _; refine bx ?_; refine blk_far ?_ NB288_312.out _; refine bx ?_; refine blk_far ?_ NB288_312.out _; refine bx ?_; refine blk_far ?_ NB288_312.out _; refine bx ?_; exact BK288.out⟩
 have n1_ : Aside0 ((((((w45.setCell ⟨gb312, 0, none⟩ (.int .i64 t306)).setCell ⟨gb312, 1, none⟩ (.int .i64 t307)).setCell ⟨gb312, 2, none⟩ (.int .i64 t308)).setCell ⟨gb312, 3, none⟩ (.int .i64 t309)).setCell ⟨gb312, 4, none⟩ (.int .i64 t310)).heap[gb289]? = some (.cells #[.string a1_0, .string a1_1] 24 (0, 0))) := ⟨by refine bx ?_; refine blk_far ?_ NB289_312.out _; refine bx ?_; refine blk_far ?_ NB289_312.out _; refine bx ?_; refine blk_far ?_ NB289_312.out _; refine bx ?_; refine blk_far ?_ NB289_312.out _; refine bx ?_; refine blk_far ?_ NB289_312.out _; refine bx ?_; exact BK289.out⟩
 have n2_ : Aside0 ((((((w45.setCell ⟨gb312, 0, none⟩ (.int .i64 t306)).setCell ⟨gb312, 1, none⟩ (.int .i64 t307)).setCell ⟨gb312, 2, none⟩ (.int .i64 t308)).setCell ⟨gb312, 3, none⟩ (.int .i64 t309)).setCell ⟨gb312, 4, none⟩ (.int .i64 t310)).heap[gb305]? = some (.cells #[.int .i64 t299, .int .i64 t300, .int .i64 t301, .int .i64 t302, .int .i64 t303] 23 (0, 0))) := ⟨by refine bx ?_; refine blk_far ?_ NB305_312.out _; refine bx ?_; refine blk_far ?_ NB305_312.out _; refine bx ?_; refine blk_far ?_ NB305_312.out _; refine bx ?_; refine blk_far ?_ NB305_312.out _; refine bx ?_; refine blk_far ?_ NB305_312.out _; refine bx ?_; exact BK305.out⟩
 have n3_ : Aside0 ((((((w45.setCell ⟨gb312, 0, none⟩ (.int .i64 t306)).setCell ⟨gb312, 1, none⟩ (.int .i64 t307)).setCell ⟨gb312, 2, none⟩ (.int .i64 t308)).setCell ⟨gb312, 3, none⟩ (.int .i64 t309)).setCell ⟨gb312, 4, none⟩ (.int .i64 t310)).heap[gb312]? = some (.cells #[.int .i64 t306, .int .i64 t307, .int .i64 t308, .int .i64 t309, .int .i64 t310] 29 (0, 0))) := ⟨by refine bx ?_; refine blk_put (cs := #[.int .i64 t306, .int .i64 t307, .int .i64 t308, .int .i64 t309, .int .i64 0]) ?_ 4 _ rfl; refine bx ?_; refine blk_put (cs := #[.int .i64 t306, .int .i64 t307, .int .i64 t308, .int .i64 0, .int .i64 0]) ?_ 3 _ rfl; refine bx ?_; refine blk_put (cs := #[.int .i64 t306, .int .i64 t307, .int .i64 0, .int .i64 0, .int .i64 0]) ?_ 2 _ rfl; refine bx ?_; refine blk_put (cs := #[.int .i64 t306, .int .i64 0, .int .i64 0, .int .i64 0, .int .i64 0]) ?_ 1 _ rfl; refine bx ?_; refine blk_put (cs := #[.int .i64 0, .int .i64 0, .int .i64 0, .int .i64 0, .int .i64 0]) ?_ 0 _ rfl; refine bx ?_; exact BK312.out⟩
 have n4_ : Aside0 (Below w.heap.size w (((((w45.setCell ⟨gb312, 0, none⟩ (.int .i64 t306)).setCell ⟨gb312, 1, none⟩ (.int .i64 t307)).setCell ⟨gb312, 2, none⟩ (.int .i64 t308)).setCell ⟨gb312, 3, none⟩ (.int .i64 t309)).setCell ⟨gb312, 4, none⟩ (.int .i64 t310))) := ⟨by repeat (first | (with_reducible first | exact HB.out | apply below_alloc | apply pw_below_drewN | apply below_drew1 | refine below_set ?_ GE288.out | refine below_set ?_ GE289.out | refine below_set ?_ GE305.out | refine below_set ?_ GE312.out) | exact HB.out)⟩
 (try clear BK288)
 (try clear BK289)
 (try clear BK305)
 (try clear BK312)
 (try clear HB)
 generalize (((((w45.setCell ⟨gb312, 0, none⟩ (.int .i64 t306)).setCell ⟨gb312, 1, none⟩ (.int .i64 t307)).setCell ⟨gb312, 2, none⟩ (.int .i64 t308)).setCell ⟨gb312, 3, none⟩ (.int .i64 t309)).setCell ⟨gb312, 4, none⟩ (.int .i64 t310)) = w50 at n0_ n1_ n2_ n3_ n4_ ⊢
 have BK288 := n0_
 have BK289 := n1_
 have BK305 := n2_
 have BK312 := n3_
 have HB := n4_
 clear n0_ n1_ n2_ n3_ n4_
 replace BK288 := as_ (blk_drew BK288.out)
 replace BK289 := as_ (blk_drew BK289.out)
 replace BK305 := as_ (blk_drew BK305.out)
 replace BK312 := as_ (blk_drew BK312.out)
 replace HB := as_ (below_drew1 HB.out)
 refine start_ (n := 42) (S := fun w' => w'.cell? ⟨gb288, 0, none⟩ = some (.int .i64 a0_0) ∧ w'.cell? ⟨gb288, 1, none⟩ = some (.int .i64 a0_1) ∧ w'.cell? ⟨gb288, 2, none⟩ = some (.int .i64 a0_2) ∧ w'.cell? ⟨gb288, 3, none⟩ = some (.int .i64 a0_3) ∧ w'.cell? ⟨gb288, 4, none⟩ = some (.int .i64 a0_4) ∧ w'.cell? ⟨gb305, 0, none⟩ = some (.int .i64 t299) ∧ w'.cell? ⟨gb305, 1, none⟩ = some (.int .i64 t300) ∧ w'.cell? ⟨gb305, 2, none⟩ = some (.int .i64 t301) ∧ w'.cell? ⟨gb305, 3, none⟩ = some (.int .i64 t302) ∧ w'.cell? ⟨gb305, 4, none⟩ = some (.int .i64 t303) ∧ w'.cell? ⟨gb312, 0, none⟩ = some (.int .i64 t306) ∧ w'.cell? ⟨gb312, 1, none⟩ = some (.int .i64 t307) ∧ w'.cell? ⟨gb312, 2, none⟩ = some (.int .i64 t308) ∧ w'.cell? ⟨gb312, 3, none⟩ = some (.int .i64 t309) ∧ w'.cell? ⟨gb312, 4, none⟩ = some (.int .i64 t310)) (ds := []) #[ff, ff, ff, ff, ff, ff, ff, ff, ff, ff, ff, ff, ff, ff, ff, ff, ff, ff, ff, ff, ff, ff, ff, ff, ff, ff, ff, ff, ff, ff, ff, ff, ff, ff, ff, ff, ff, ff, ff, ff, ff, ff] (by kernel_rfl) rfl rfl ⟨(blk_cell BK288.out 0).trans rfl, (blk_cell BK288.out 1).trans rfl, (blk_cell BK288.out 2).trans rfl, (blk_cell BK288.out 3).trans rfl, (blk_cell BK288.out 4).trans rfl, (blk_cell BK305.out 0).trans rfl, (blk_cell BK305.out 1).trans rfl, (blk_cell BK305.out 2).trans rfl, (blk_cell BK305.out 3).trans rfl, (blk_cell BK305.out 4).trans rfl, (blk_cell BK312.out 0).trans rfl, (blk_cell BK312.out 1).trans rfl, (blk_cell BK312.out 2).trans rfl, (blk_cell BK312.out 3).trans rfl, (blk_cell BK312.out 4).trans rfl⟩ (fun hHeld => ?_); refine with_tabW withylaw13_MetaTells.tab6 withylaw13_MetaTells.bits6 (fun HT_ HW_ => ?_)
 generalize w50.drew = w51 at BK288 BK289 BK305 BK312 HB hHeld ⊢
 refine take_ (i := 0) (N := some 52) (v := ?_) (a' := ?_) #[tt, ff, ff, ff, ff, ff, ff, ff, ff, ff, ff, ff, ff, ff, ff, ff, ff, ff, ff, ff, ff, ff, ff, ff, ff, ff, ff, ff, ff, ff, ff, ff, ff, ff, ff, ff, ff, ff, ff, ff, ff, ff] rfl rfl (take_ofW HT_.out HW_.out (by kernel_rfl)) (fun _ _ _ h => h) (Or.inl ⟨by rfl, ?_⟩) hHeld ?_ ?_
 rotate_left
 ·rintro w' ⟨s0, s1, s2, s3, s4, s5, s6, s7, s8, s9, s10, s11, s12, s13, s14⟩
  go_simp
  with_reducible rfl
 rotate_left
 ·exact aP
 refine take_ (i := 2) (N := some 54) (v := ?_) (a' := ?_) #[tt, ff, tt, ff, ff, ff, ff, ff, ff, ff, ff, ff, ff, ff, ff, ff, ff, ff, ff, ff, ff, ff, ff, ff, ff, ff, ff, ff, ff, ff, ff, ff, ff, ff, ff, ff, ff, ff, ff, ff, ff, ff] rfl rfl (take_ofW HT_.out HW_.out (by kernel_rfl)) (fun _ _ _ h => h) (Or.inl ⟨by rfl, ?_⟩) hHeld ?_ ?_
 rotate_left
 ·rintro w' ⟨s0, s1, s2, s3, s4, s5, s6, s7, s8, s9, s10, s11, s12, s13, s14⟩
  go_simp
  with_reducible rfl
 rotate_left
 ·exact aP
 refine one_ (i := 1) (N := some 53) #[tt, tt, tt, ff, ff, ff, ff, ff, ff, ff, ff, ff, ff, ff, ff, ff, ff, ff, ff, ff, ff, ff, ff, ff, ff, ff, ff, ff, ff, ff, ff, ff, ff, ff, ff, ff, ff, ff, ff, ff, ff, ff] rfl rfl (one_of HT_.out (by kernel_rfl)) (by decide) (fun K hK => ?_)
 refine goes_ Try.func14 (by kernel_rfl) rfl #[.agg #[.int .i64 a0_0, .int .i64 a0_1, .int .i64 a0_2, .int .i64 a0_3, .int .i64 a0_4]] (by rfl) rfl rfl aO ?_
 with_reducible refine (meta_May.calls a0_0 a0_1 a0_2 a0_3 a0_4 t313 _ A17.out).mono ?_
 rintro e w52 ⟨rfl, hb⟩
 refine ⟨_, rfl, ?_⟩
 replace BK288 := bb BK288 hb
 replace BK289 := bb BK289 hb
 replace BK305 := bb BK305 hb
 replace BK312 := bb BK312 hb
 replace HB := as_ (below_step bA hb)
 (try clear hb)
 (try clear hb2)
 (try clear hk)
 (try clear hi)
 refine hK.out _ _ ⟨(blk_cell BK288.out 0).trans rfl, (blk_cell BK288.out 1).trans rfl, (blk_cell BK288.out 2).trans rfl, (blk_cell BK288.out 3).trans rfl, (blk_cell BK288.out 4).trans rfl, (blk_cell BK305.out 0).trans rfl, (blk_cell BK305.out 1).trans rfl, (blk_cell BK305.out 2).trans rfl, (blk_cell BK305.out 3).trans rfl, (blk_cell BK305.out 4).trans rfl, (blk_cell BK312.out 0).trans rfl, (blk_cell BK312.out 1).trans rfl, (blk_cell BK312.out 2).trans rfl, (blk_cell BK312.out 3).trans rfl, (blk_cell BK312.out 4).trans rfl⟩ (fun hHeld => ?_)
 clear hK K
 refine norm_ (a' := ?_) ?_ ?_
 rotate_left
 ·show Act.put _ (some 53) _ = _
  simp only [Act.put, List.setIfInBounds_toArray, List.set_cons_zero, List.set_cons_succ, i64_w, i32_w]
  rfl
 refine one_ (i := 3) (N := some 55) #[tt, tt, tt, tt, ff, ff, ff, ff, ff, ff, ff, ff, ff, ff, ff, ff, ff, ff, ff, ff, ff, ff, ff, ff, ff, ff, ff, ff, ff, ff, ff, ff, ff, ff, ff, ff, ff, ff, ff, ff, ff, ff] rfl rfl (one_of HT_.out (by kernel_rfl)) (by decide) (fun K hK => ?_)
 refine goes_ Try.func11 (by kernel_rfl) rfl #[.agg #[.int .i64 a0_0, .int .i64 a0_1, .int .i64 a0_2, .int .i64 a0_3, .int .i64 a0_4]] (by rfl) rfl rfl aO ?_
 with_reducible refine (withylaw13_Ref.calls a0_0 a0_1 a0_2 a0_3 a0_4 t314 t315 t316 t317 t318 _ A18.out).mono ?_
 rintro e w53 ⟨rfl, hb⟩
 refine ⟨_, rfl, ?_⟩
 replace BK288 := bb BK288 hb
 replace BK289 := bb BK289 hb
 replace BK305 := bb BK305 hb
 replace BK312 := bb BK312 hb
 replace HB := as_ (below_step bA hb)
 (try clear hb)
 (try clear hb2)
 (try clear hk)
 (try clear hi)
 refine hK.out _ _ ⟨(blk_cell BK288.out 0).trans rfl, (blk_cell BK288.out 1).trans rfl, (blk_cell BK288.out 2).trans rfl, (blk_cell BK288.out 3).trans rfl, (blk_cell BK288.out 4).trans rfl, (blk_cell BK305.out 0).trans rfl, (blk_cell BK305.out 1).trans rfl, (blk_cell BK305.out 2).trans rfl, (blk_cell BK305.out 3).trans rfl, (blk_cell BK305.out 4).trans rfl, (blk_cell BK312.out 0).trans rfl, (blk_cell BK312.out 1).trans rfl, (blk_cell BK312.out 2).trans rfl, (blk_cell BK312.out 3).trans rfl, (blk_cell BK312.out 4).trans rfl⟩ (fun hHeld => ?_)
 clear hK K
 refine norm_ (a' := ?_) ?_ ?_
 rotate_left
 ·show Act.put _ (some 55) _ = _
  simp only [Act.put, List.setIfInBounds_toArray, List.set_cons_zero, List.set_cons_succ, i64_w, i32_w]
  rfl
 refine one_ (i := 4) (N := some 56) #[tt, tt, tt, tt, tt, ff, ff, ff, ff, ff, ff, ff, ff, ff, ff, ff, ff, ff, ff, ff, ff, ff, ff, ff, ff, ff, ff, ff, ff, ff, ff, ff, ff, ff, ff, ff, ff, ff, ff, ff, ff, ff] rfl rfl (one_of HT_.out (by kernel_rfl)) (by decide) (fun K hK => ?_)
 refine goes_ Try.func15 (by kernel_rfl) rfl #[.agg #[.int .i64 t314, .int .i64 t315, .int .i64 t316, .int .i64 t317, .int .i64 t318]] (by rfl) rfl rfl aO ?_
 with_reducible refine (withyref13_May.calls t314 t315 t316 t317 t318 t319 _ A19.out).mono ?_
 rintro e w54 ⟨rfl, hb⟩
 refine ⟨_, rfl, ?_⟩
 replace BK288 := bb BK288 hb
 replace BK289 := bb BK289 hb
 replace BK305 := bb BK305 hb
 replace BK312 := bb BK312 hb
 replace HB := as_ (below_step bA hb)
 (try clear hb)
 (try clear hb2)
 (try clear hk)
 (try clear hi)
 refine hK.out _ _ ⟨(blk_cell BK288.out 0).trans rfl, (blk_cell BK288.out 1).trans rfl, (blk_cell BK288.out 2).trans rfl, (blk_cell BK288.out 3).trans rfl, (blk_cell BK288.out 4).trans rfl, (blk_cell BK305.out 0).trans rfl, (blk_cell BK305.out 1).trans rfl, (blk_cell BK305.out 2).trans rfl, (blk_cell BK305.out 3).trans rfl, (blk_cell BK305.out 4).trans rfl, (blk_cell BK312.out 0).trans rfl, (blk_cell BK312.out 1).trans rfl, (blk_cell BK312.out 2).trans rfl, (blk_cell BK312.out 3).trans rfl, (blk_cell BK312.out 4).trans rfl⟩ (fun hHeld => ?_)
 clear hK K
 refine norm_ (a' := ?_) ?_ ?_
 rotate_left
 ·show Act.put _ (some 56) _ = _
  simp only [Act.put, List.setIfInBounds_toArray, List.set_cons_zero, List.set_cons_succ, i64_w, i32_w]
  rfl
 refine pure_ (i := 5) (N := some 57) (v := ?_) (a' := ?_) #[tt, tt, tt, tt, tt, tt, ff, ff, ff, ff, ff, ff, ff, ff, ff, ff, ff, ff, ff, ff, ff, ff, ff, ff, ff, ff, ff, ff, ff, ff, ff, ff, ff, ff, ff, ff, ff, ff, ff, ff, ff, ff] rfl rfl (any_of HT_.out (by kernel_rfl)) (fun _ _ _ h => h) (Or.inl ⟨by rfl, ?_⟩) ?_ ?_
 rotate_left
 ·intro w'
  go_simp
  with_reducible rfl
 rotate_left
 ·exact aP
 refine pure_ (i := 6) (N := some 58) (v := ?_) (a' := ?_) #[tt, tt, tt, tt, tt, tt, tt, ff, ff, ff, ff, ff, ff, ff, ff, ff, ff, ff, ff, ff, ff, ff, ff, ff, ff, ff, ff, ff, ff, ff, ff, ff, ff, ff, ff, ff, ff, ff, ff, ff, ff, ff] rfl rfl (any_of HT_.out (by kernel_rfl)) (fun _ _ _ h => h) (Or.inl ⟨by rfl, ?_⟩) ?_ ?_
 rotate_left
 ·intro w'
  go_simp
  with_reducible rfl
 rotate_left
 ·exact aP
 refine pure_ (i := 7) (N := some 59) (v := ?_) (a' := ?_) #[tt, tt, tt, tt, tt, tt, tt, tt, ff, ff, ff, ff, ff, ff, ff, ff, ff, ff, ff, ff, ff, ff, ff, ff, ff, ff, ff, ff, ff, ff, ff, ff, ff, ff, ff, ff, ff, ff, ff, ff, ff, ff] rfl rfl (any_of HT_.out (by kernel_rfl)) (fun _ _ _ h => h) (Or.inl ⟨by rfl, ?_⟩) ?_ ?_
 rotate_left
 ·intro w'
  go_simp
  with_reducible rfl
 rotate_left
 ·exact aP
 refine pure_ (i := 8) (N := some 60) (v := ?_) (a' := ?_) #[tt, tt, tt, tt, tt, tt, tt, tt, tt, ff, ff, ff, ff, ff, ff, ff, ff, ff, ff, ff, ff, ff, ff, ff, ff, ff, ff, ff, ff, ff, ff, ff, ff, ff, ff, ff, ff, ff, ff, ff, ff, ff] rfl rfl (any_of HT_.out (by kernel_rfl)) (fun _ _ _ h => h) (Or.inl ⟨by rfl, ?_⟩) ?_ ?_
 rotate_left
 ·intro w'
  go_simp
  with_reducible rfl
 rotate_left
 ·exact aP
 refine pure_ (i := 9) (N := some 61) (v := ?_) (a' := ?_) #[tt, tt, tt, tt, tt, tt, tt, tt, tt, tt, ff, ff, ff, ff, ff, ff, ff, ff, ff, ff, ff, ff, ff, ff, ff, ff, ff, ff, ff, ff, ff, ff, ff, ff, ff, ff, ff, ff, ff, ff, ff, ff] rfl rfl (any_of HT_.out (by kernel_rfl)) (fun _ _ _ h => h) (Or.inl ⟨by rfl, ?_⟩) ?_ ?_
 rotate_left
 ·intro w'
  go_simp
  with_reducible rfl
 rotate_left
 ·exact aP
 refine pure_ (i := 10) (N := some 62) (v := ?_) (a' := ?_) #[tt, tt, tt, tt, tt, tt, tt, tt, tt, tt, tt, ff, ff, ff, ff, ff, ff, ff, ff, ff, ff, ff, ff, ff, ff, ff, ff, ff, ff, ff, ff, ff, ff, ff, ff, ff, ff, ff, ff, ff, ff, ff] rfl rfl (any_of HT_.out (by kernel_rfl)) (fun _ _ _ h => h) (Or.inl ⟨by rfl, ?_⟩) ?_ ?_
 rotate_left
 ·intro w'
  go_simp
  with_reducible rfl
 rotate_left
 ·exact aP
 refine pure_ (i := 11) (N := some 63) (v := ?_) (a' := ?_) #[tt, tt, tt, tt, tt, tt, tt, tt, tt, tt, tt, tt, ff, ff, ff, ff, ff, ff, ff, ff, ff, ff, ff, ff, ff, ff, ff, ff, ff, ff, ff, ff, ff, ff, ff, ff, ff, ff, ff, ff, ff, ff] rfl rfl (any_of HT_.out (by kernel_rfl)) (fun _ _ _ h => h) (Or.inl ⟨by rfl, ?_⟩) ?_ ?_
 rotate_left
 ·intro w'
  go_simp
  with_reducible rfl
 rotate_left
 ·exact aP
 refine pure_ (i := 12) (N := some 64) (v := ?_) (a' := ?_) #[tt, tt, tt, tt, tt, tt, tt, tt, tt, tt, tt, tt, tt, ff, ff, ff, ff, ff, ff, ff, ff, ff, ff, ff, ff, ff, ff, ff, ff, ff, ff, ff, ff, ff, ff, ff, ff, ff, ff, ff, ff, ff] rfl rfl (any_of HT_.out (by kernel_rfl)) (fun _ _ _ h => h) (Or.inl ⟨by rfl, ?_⟩) ?_ ?_
 rotate_left
 ·intro w'
  go_simp
  with_reducible rfl
 rotate_left
 ·exact aP
 refine pure_ (i := 13) (N := some 65) (v := ?_) (a' := ?_) #[tt, tt, tt, tt, tt, tt, tt, tt, tt, tt, tt, tt, tt, tt, ff, ff, ff, ff, ff, ff, ff, ff, ff, ff, ff, ff, ff, ff, ff, ff, ff, ff, ff, ff, ff, ff, ff, ff, ff, ff, ff, ff] rfl rfl (any_of HT_.out (by kernel_rfl)) (fun _ _ _ h => h) (Or.inl ⟨by rfl, ?_⟩) ?_ ?_
 rotate_left
 ·intro w'
  go_simp
  with_reducible rfl
 rotate_left
 ·exact aP
 refine pure_ (i := 14) (N := some 66) (v := ?_) (a' := ?_) #[tt, tt, tt, tt, tt, tt, tt, tt, tt, tt, tt, tt, tt, tt, tt, ff, ff, ff, ff, ff, ff, ff, ff, ff, ff, ff, ff, ff, ff, ff, ff, ff, ff, ff, ff, ff, ff, ff, ff, ff, ff, ff] rfl rfl (any_of HT_.out (by kernel_rfl)) (fun _ _ _ h => h) (Or.inl ⟨by rfl, ?_⟩) ?_ ?_
 rotate_left
 ·intro w'
  go_simp
  with_reducible rfl
 rotate_left
 ·exact aP
 refine pure_ (i := 15) (N := some 67) (v := ?_) (a' := ?_) #[tt, tt, tt, tt, tt, tt, tt, tt, tt, tt, tt, tt, tt, tt, tt, tt, ff, ff, ff, ff, ff, ff, ff, ff, ff, ff, ff, ff, ff, ff, ff, ff, ff, ff, ff, ff, ff, ff, ff, ff, ff, ff] rfl rfl (any_of HT_.out (by kernel_rfl)) (fun _ _ _ h => h) (Or.inl ⟨by rfl, ?_⟩) ?_ ?_
 rotate_left
 ·intro w'
  go_simp
  with_reducible rfl
 rotate_left
 ·exact aP
 refine pure_ (i := 16) (N := some 68) (v := ?_) (a' := ?_) #[tt, tt, tt, tt, tt, tt, tt, tt, tt, tt, tt, tt, tt, tt, tt, tt, tt, ff, ff, ff, ff, ff, ff, ff, ff, ff, ff, ff, ff, ff, ff, ff, ff, ff, ff, ff, ff, ff, ff, ff, ff, ff] rfl rfl (any_of HT_.out (by kernel_rfl)) (fun _ _ _ h => h) (Or.inl ⟨by rfl, ?_⟩) ?_ ?_
 rotate_left
 ·intro w'
  go_simp
  with_reducible rfl
 rotate_left
 ·exact aP
 refine take_ (i := 17) (N := some 69) (v := ?_) (a' := ?_) #[tt, tt, tt, tt, tt, tt, tt, tt, tt, tt, tt, tt, tt, tt, tt, tt, tt, tt, ff, ff, ff, ff, ff, ff, ff, ff, ff, ff, ff, ff, ff, ff, ff, ff, ff, ff, ff, ff, ff, ff, ff, ff] rfl rfl (take_ofW HT_.out HW_.out (by kernel_rfl)) (fun _ _ _ h => h) (Or.inl ⟨by rfl, ?_⟩) hHeld ?_ ?_
 rotate_left
 ·rintro w' ⟨s0, s1, s2, s3, s4, s5, s6, s7, s8, s9, s10, s11, s12, s13, s14⟩
  go_simp
  with_reducible rfl
 rotate_left
 ·exact aP
 refine take_ (i := 19) (N := some 71) (v := ?_) (a' := ?_) #[tt, tt, tt, tt, tt, tt, tt, tt, tt, tt, tt, tt, tt, tt, tt, tt, tt, tt, ff, tt, ff, ff, ff, ff, ff, ff, ff, ff, ff, ff, ff, ff, ff, ff, ff, ff, ff, ff, ff, ff, ff, ff] rfl rfl (take_ofW HT_.out HW_.out (by kernel_rfl)) (fun _ _ _ h => h) (Or.inl ⟨by rfl, ?_⟩) hHeld ?_ ?_
 rotate_left
 ·rintro w' ⟨s0, s1, s2, s3, s4, s5, s6, s7, s8, s9, s10, s11, s12, s13, s14⟩
  go_simp
  with_reducible rfl
 rotate_left
 ·exact aP
 refine one_ (i := 18) (N := some 70) #[tt, tt, tt, tt, tt, tt, tt, tt, tt, tt, tt, tt, tt, tt, tt, tt, tt, tt, tt, tt, ff, ff, ff, ff, ff, ff, ff, ff, ff, ff, ff, ff, ff, ff, ff, ff, ff, ff, ff, ff, ff, ff] rfl rfl (one_of HT_.out (by kernel_rfl)) (by decide) (fun K hK => ?_)
 refine goes_ Try.func11 (by kernel_rfl) rfl #[.agg #[.int .i64 t299, .int .i64 t300, .int .i64 t301, .int .i64 t302, .int .i64 t303]] (by rfl) rfl rfl aO ?_
 with_reducible refine (withylaw13_Ref.calls t299 t300 t301 t302 t303 t320 t321 t322 t323 t324 _ A23.out).mono ?_
 rintro e w55 ⟨rfl, hb⟩
 refine ⟨_, rfl, ?_⟩
 replace BK288 := bb BK288 hb
 replace BK289 := bb BK289 hb
 replace BK305 := bb BK305 hb
 replace BK312 := bb BK312 hb
 replace HB := as_ (below_step bA hb)
 (try clear hb)
 (try clear hb2)
 (try clear hk)
 (try clear hi)
 refine hK.out _ _ ⟨(blk_cell BK288.out 0).trans rfl, (blk_cell BK288.out 1).trans rfl, (blk_cell BK288.out 2).trans rfl, (blk_cell BK288.out 3).trans rfl, (blk_cell BK288.out 4).trans rfl, (blk_cell BK305.out 0).trans rfl, (blk_cell BK305.out 1).trans rfl, (blk_cell BK305.out 2).trans rfl, (blk_cell BK305.out 3).trans rfl, (blk_cell BK305.out 4).trans rfl, (blk_cell BK312.out 0).trans rfl, (blk_cell BK312.out 1).trans rfl, (blk_cell BK312.out 2).trans rfl, (blk_cell BK312.out 3).trans rfl, (blk_cell BK312.out 4).trans rfl⟩ (fun hHeld => ?_)
 clear hK K
 refine norm_ (a' := ?_) ?_ ?_
 rotate_left
 ·show Act.put _ (some 70) _ = _
  simp only [Act.put, List.setIfInBounds_toArray, List.set_cons_zero, List.set_cons_succ, i64_w, i32_w]
  rfl
 refine pure_ (i := 20) (N := some 72) (v := ?_) (a' := ?_) #[tt, tt, tt, tt, tt, tt, tt, tt, tt, tt, tt, tt, tt, tt, tt, tt, tt, tt, tt, tt, tt, ff, ff, ff, ff, ff, ff, ff, ff, ff, ff, ff, ff, ff, ff, ff, ff, ff, ff, ff, ff, ff] rfl rfl (any_of HT_.out (by kernel_rfl)) (fun _ _ _ h => h) (Or.inl ⟨by rfl, ?_⟩) ?_ ?_
 rotate_left
 ·intro w'
  go_simp
  with_reducible rfl
 rotate_left
 ·exact aP
 refine pure_ (i := 21) (N := some 73) (v := ?_) (a' := ?_) #[tt, tt, tt, tt, tt, tt, tt, tt, tt, tt, tt, tt, tt, tt, tt, tt, tt, tt, tt, tt, tt, tt, ff, ff, ff, ff, ff, ff, ff, ff, ff, ff, ff, ff, ff, ff, ff, ff, ff, ff, ff, ff] rfl rfl (any_of HT_.out (by kernel_rfl)) (fun _ _ _ h => h) (Or.inl ⟨by rfl, ?_⟩) ?_ ?_
 rotate_left
 ·intro w'
  go_simp
  with_reducible rfl
 rotate_left
 ·exact aP
 refine pure_ (i := 22) (N := some 74) (v := ?_) (a' := ?_) #[tt, tt, tt, tt, tt, tt, tt, tt, tt, tt, tt, tt, tt, tt, tt, tt, tt, tt, tt, tt, tt, tt, tt, ff, ff, ff, ff, ff, ff, ff, ff, ff, ff, ff, ff, ff, ff, ff, ff, ff, ff, ff] rfl rfl (any_of HT_.out (by kernel_rfl)) (fun _ _ _ h => h) (Or.inl ⟨by rfl, ?_⟩) ?_ ?_
 rotate_left
 ·intro w'
  go_simp
  with_reducible rfl
 rotate_left
 ·exact aP
 refine pure_ (i := 23) (N := some 75) (v := ?_) (a' := ?_) #[tt, tt, tt, tt, tt, tt, tt, tt, tt, tt, tt, tt, tt, tt, tt, tt, tt, tt, tt, tt, tt, tt, tt, tt, ff, ff, ff, ff, ff, ff, ff, ff, ff, ff, ff, ff, ff, ff, ff, ff, ff, ff] rfl rfl (any_of HT_.out (by kernel_rfl)) (fun _ _ _ h => h) (Or.inl ⟨by rfl, ?_⟩) ?_ ?_
 rotate_left
 ·intro w'
  go_simp
  with_reducible rfl
 rotate_left
 ·exact aP
 refine pure_ (i := 24) (N := some 76) (v := ?_) (a' := ?_) #[tt, tt, tt, tt, tt, tt, tt, tt, tt, tt, tt, tt, tt, tt, tt, tt, tt, tt, tt, tt, tt, tt, tt, tt, tt, ff, ff, ff, ff, ff, ff, ff, ff, ff, ff, ff, ff, ff, ff, ff, ff, ff] rfl rfl (any_of HT_.out (by kernel_rfl)) (fun _ _ _ h => h) (Or.inl ⟨by rfl, ?_⟩) ?_ ?_
 rotate_left
 ·intro w'
  go_simp
  with_reducible rfl
 rotate_left
 ·exact aP
 refine pure_ (i := 25) (N := some 77) (v := ?_) (a' := ?_) #[tt, tt, tt, tt, tt, tt, tt, tt, tt, tt, tt, tt, tt, tt, tt, tt, tt, tt, tt, tt, tt, tt, tt, tt, tt, tt, ff, ff, ff, ff, ff, ff, ff, ff, ff, ff, ff, ff, ff, ff, ff, ff] rfl rfl (any_of HT_.out (by kernel_rfl)) (fun _ _ _ h => h) (Or.inl ⟨by rfl, ?_⟩) ?_ ?_
 rotate_left
 ·intro w'
  go_simp
  with_reducible rfl
 rotate_left
 ·exact aP
 refine pure_ (i := 26) (N := some 78) (v := ?_) (a' := ?_) #[tt, tt, tt, tt, tt, tt, tt, tt, tt, tt, tt, tt, tt, tt, tt, tt, tt, tt, tt, tt, tt, tt, tt, tt, tt, tt, tt, ff, ff, ff, ff, ff, ff, ff, ff, ff, ff, ff, ff, ff, ff, ff] rfl rfl (any_of HT_.out (by kernel_rfl)) (fun _ _ _ h => h) (Or.inl ⟨by rfl, ?_⟩) ?_ ?_
 rotate_left
 ·intro w'
  go_simp
  with_reducible rfl
 rotate_left
 ·exact aP
 refine pure_ (i := 27) (N := some 79) (v := ?_) (a' := ?_) #[tt, tt, tt, tt, tt, tt, tt, tt, tt, tt, tt, tt, tt, tt, tt, tt, tt, tt, tt, tt, tt, tt, tt, tt, tt, tt, tt, tt, ff, ff, ff, ff, ff, ff, ff, ff, ff, ff, ff, ff, ff, ff] rfl rfl (any_of HT_.out (by kernel_rfl)) (fun _ _ _ h => h) (Or.inl ⟨by rfl, ?_⟩) ?_ ?_
 rotate_left
 ·intro w'
  go_simp
  with_reducible rfl
 rotate_left
 ·exact aP
 refine pure_ (i := 28) (N := some 80) (v := ?_) (a' := ?_) #[tt, tt, tt, tt, tt, tt, tt, tt, tt, tt, tt, tt, tt, tt, tt, tt, tt, tt, tt, tt, tt, tt, tt, tt, tt, tt, tt, tt, tt, ff, ff, ff, ff, ff, ff, ff, ff, ff, ff, ff, ff, ff] rfl rfl (any_of HT_.out (by kernel_rfl)) (fun _ _ _ h => h) (Or.inl ⟨by rfl, ?_⟩) ?_ ?_
 rotate_left
 ·intro w'
  go_simp
  with_reducible rfl
 rotate_left
 ·exact aP
 refine pure_ (i := 29) (N := some 81) (v := ?_) (a' := ?_) #[tt, tt, tt, tt, tt, tt, tt, tt, tt, tt, tt, tt, tt, tt, tt, tt, tt, tt, tt, tt, tt, tt, tt, tt, tt, tt, tt, tt, tt, tt, ff, ff, ff, ff, ff, ff, ff, ff, ff, ff, ff, ff] rfl rfl (any_of HT_.out (by kernel_rfl)) (fun _ _ _ h => h) (Or.inl ⟨by rfl, ?_⟩) ?_ ?_
 rotate_left
 ·intro w'
  go_simp
  with_reducible rfl
 rotate_left
 ·exact aP
 refine pure_ (i := 30) (N := some 82) (v := ?_) (a' := ?_) #[tt, tt, tt, tt, tt, tt, tt, tt, tt, tt, tt, tt, tt, tt, tt, tt, tt, tt, tt, tt, tt, tt, tt, tt, tt, tt, tt, tt, tt, tt, tt, ff, ff, ff, ff, ff, ff, ff, ff, ff, ff, ff] rfl rfl (any_of HT_.out (by kernel_rfl)) (fun _ _ _ h => h) (Or.inl ⟨by rfl, ?_⟩) ?_ ?_
 rotate_left
 ·intro w'
  go_simp
  with_reducible rfl
 rotate_left
 ·exact aP
 refine pure_ (i := 32) (N := some 84) (v := ?_) (a' := ?_) #[tt, tt, tt, tt, tt, tt, tt, tt, tt, tt, tt, tt, tt, tt, tt, tt, tt, tt, tt, tt, tt, tt, tt, tt, tt, tt, tt, tt, tt, tt, tt, ff, tt, ff, ff, ff, ff, ff, ff, ff, ff, ff] rfl rfl (any_of HT_.out (by kernel_rfl)) (fun _ _ _ h => h) (Or.inl ⟨by rfl, ?_⟩) ?_ ?_
 rotate_left
 ·intro w'
  go_simp
  with_reducible rfl
 rotate_left
 ·exact aP
 refine pure_ (i := 33) (N := some 85) (v := ?_) (a' := ?_) #[tt, tt, tt, tt, tt, tt, tt, tt, tt, tt, tt, tt, tt, tt, tt, tt, tt, tt, tt, tt, tt, tt, tt, tt, tt, tt, tt, tt, tt, tt, tt, ff, tt, tt, ff, ff, ff, ff, ff, ff, ff, ff] rfl rfl (any_of HT_.out (by kernel_rfl)) (fun _ _ _ h => h) (Or.inl ⟨by rfl, ?_⟩) ?_ ?_
 rotate_left
 ·intro w'
  go_simp
  with_reducible rfl
 rotate_left
 ·exact aP
 refine pure_ (i := 34) (N := some 86) (v := ?_) (a' := ?_) #[tt, tt, tt, tt, tt, tt, tt, tt, tt, tt, tt, tt, tt, tt, tt, tt, tt, tt, tt, tt, tt, tt, tt, tt, tt, tt, tt, tt, tt, tt, tt, ff, tt, tt, tt, ff, ff, ff, ff, ff, ff, ff] rfl rfl (any_of HT_.out (by kernel_rfl)) (fun _ _ _ h => h) (Or.inl ⟨by rfl, ?_⟩) ?_ ?_
 rotate_left
 ·intro w'
  go_simp
  with_reducible rfl
 rotate_left
 ·exact aP
 refine one_ (i := 31) (N := some 83) #[tt, tt, tt, tt, tt, tt, tt, tt, tt, tt, tt, tt, tt, tt, tt, tt, tt, tt, tt, tt, tt, tt, tt, tt, tt, tt, tt, tt, tt, tt, tt, tt, tt, tt, tt, ff, ff, ff, ff, ff, ff, ff] rfl rfl (one_of HT_.out (by kernel_rfl)) (by decide) (fun K hK => ?_)
 refine goes_ Try.func16 (by kernel_rfl) rfl #[.string js7, .string js11, .int .i64 a2] (by rfl) rfl rfl aO ?_
 with_reducible refine (meta_Tear.calls js7 js11 a2 t325 _ A26.out).mono ?_
 rintro e w56 ⟨rfl, hb⟩
 refine ⟨_, rfl, ?_⟩
 replace BK288 := bb BK288 hb
 replace BK289 := bb BK289 hb
 replace BK305 := bb BK305 hb
 replace BK312 := bb BK312 hb
 replace HB := as_ (below_step bA hb)
 (try clear hb)
 (try clear hb2)
 (try clear hk)
 (try clear hi)
 refine hK.out _ _ ⟨(blk_cell BK288.out 0).trans rfl, (blk_cell BK288.out 1).trans rfl, (blk_cell BK288.out 2).trans rfl, (blk_cell BK288.out 3).trans rfl, (blk_cell BK288.out 4).trans rfl, (blk_cell BK305.out 0).trans rfl, (blk_cell BK305.out 1).trans rfl, (blk_cell BK305.out 2).trans rfl, (blk_cell BK305.out 3).trans rfl, (blk_cell BK305.out 4).trans rfl, (blk_cell BK312.out 0).trans rfl, (blk_cell BK312.out 1).trans rfl, (blk_cell BK312.out 2).trans rfl, (blk_cell BK312.out 3).trans rfl, (blk_cell BK312.out 4).trans rfl⟩ (fun hHeld => ?_)
 clear hK K
 refine norm_ (a' := ?_) ?_ ?_
 rotate_left
 ·show Act.put _ (some 83) _ = _
  simp only [Act.put, List.setIfInBounds_toArray, List.set_cons_zero, List.set_cons_succ, i64_w, i32_w]
  rfl
 refine one_ (i := 35) (N := some 87) #[tt, tt, tt, tt, tt, tt, tt, tt, tt, tt, tt, tt, tt, tt, tt, tt, tt, tt, tt, tt, tt, tt, tt, tt, tt, tt, tt, tt, tt, tt, tt, tt, tt, tt, tt, tt, ff, ff, ff, ff, ff, ff] rfl rfl (one_of HT_.out (by kernel_rfl)) (by decide) (fun K hK => ?_)
 refine goes_ Try.func17 (by kernel_rfl) rfl #[.string js7, .string js11, .int .i64 a2] (by rfl) rfl rfl aO ?_
 with_reducible refine (withyref13_Tear.calls js7 js11 a2 t326 _ A27.out).mono ?_
 rintro e w57 ⟨rfl, hb⟩
 refine ⟨_, rfl, ?_⟩
 replace BK288 := bb BK288 hb
 replace BK289 := bb BK289 hb
 replace BK305 := bb BK305 hb
 replace BK312 := bb BK312 hb
 replace HB := as_ (below_step bA hb)
 (try clear hb)
 (try clear hb2)
 (try clear hk)
 (try clear hi)
 refine hK.out _ _ ⟨(blk_cell BK288.out 0).trans rfl, (blk_cell BK288.out 1).trans rfl, (blk_cell BK288.out 2).trans rfl, (blk_cell BK288.out 3).trans rfl, (blk_cell BK288.out 4).trans rfl, (blk_cell BK305.out 0).trans rfl, (blk_cell BK305.out 1).trans rfl, (blk_cell BK305.out 2).trans rfl, (blk_cell BK305.out 3).trans rfl, (blk_cell BK305.out 4).trans rfl, (blk_cell BK312.out 0).trans rfl, (blk_cell BK312.out 1).trans rfl, (blk_cell BK312.out 2).trans rfl, (blk_cell BK312.out 3).trans rfl, (blk_cell BK312.out 4).trans rfl⟩ (fun hHeld => ?_)
 clear hK K
 refine norm_ (a' := ?_) ?_ ?_
 rotate_left
 ·show Act.put _ (some 87) _ = _
  simp only [Act.put, List.setIfInBounds_toArray, List.set_cons_zero, List.set_cons_succ, i64_w, i32_w]
  rfl
 refine pure_ (i := 36) (N := some 88) (v := ?_) (a' := ?_) #[tt, tt, tt, tt, tt, tt, tt, tt, tt, tt, tt, tt, tt, tt, tt, tt, tt, tt, tt, tt, tt, tt, tt, tt, tt, tt, tt, tt, tt, tt, tt, tt, tt, tt, tt, tt, tt, ff, ff, ff, ff, ff] rfl rfl (any_of HT_.out (by kernel_rfl)) (fun _ _ _ h => h) (Or.inl ⟨by rfl, ?_⟩) ?_ ?_
 rotate_left
 ·intro w'
  go_simp
  with_reducible rfl
 rotate_left
 ·exact aP
 refine pure_ (i := 37) (N := some 89) (v := ?_) (a' := ?_) #[tt, tt, tt, tt, tt, tt, tt, tt, tt, tt, tt, tt, tt, tt, tt, tt, tt, tt, tt, tt, tt, tt, tt, tt, tt, tt, tt, tt, tt, tt, tt, tt, tt, tt, tt, tt, tt, tt, ff, ff, ff, ff] rfl rfl (any_of HT_.out (by kernel_rfl)) (fun _ _ _ h => h) (Or.inl ⟨by rfl, ?_⟩) ?_ ?_
 rotate_left
 ·intro w'
  go_simp
  with_reducible rfl
 rotate_left
 ·exact aP
 refine pure_ (i := 38) (N := some 90) (v := ?_) (a' := ?_) #[tt, tt, tt, tt, tt, tt, tt, tt, tt, tt, tt, tt, tt, tt, tt, tt, tt, tt, tt, tt, tt, tt, tt, tt, tt, tt, tt, tt, tt, tt, tt, tt, tt, tt, tt, tt, tt, tt, tt, ff, ff, ff] rfl rfl (any_of HT_.out (by kernel_rfl)) (fun _ _ _ h => h) (Or.inl ⟨by rfl, ?_⟩) ?_ ?_
 rotate_left
 ·intro w'
  go_simp
  with_reducible rfl
 rotate_left
 ·exact aP
 refine one_ (i := 39) (N := some 91) #[tt, tt, tt, tt, tt, tt, tt, tt, tt, tt, tt, tt, tt, tt, tt, tt, tt, tt, tt, tt, tt, tt, tt, tt, tt, tt, tt, tt, tt, tt, tt, tt, tt, tt, tt, tt, tt, tt, tt, tt, ff, ff] rfl rfl (one_of HT_.out (by kernel_rfl)) (by decide) (fun K hK => ?_)
 refine goes_ Try.func18 (by kernel_rfl) rfl #[] (by rfl) rfl rfl aO ?_
 with_reducible refine (withylaw13_fixed.calls k  t327 _ A29.out).mono ?_
 rintro e w58 ⟨rfl, hb⟩
 refine ⟨_, rfl, ?_⟩
 replace BK288 := bb BK288 hb
 replace BK289 := bb BK289 hb
 replace BK305 := bb BK305 hb
 replace BK312 := bb BK312 hb
 replace HB := as_ (below_step bA hb)
 (try clear hb)
 (try clear hb2)
 (try clear hk)
 (try clear hi)
 refine hK.out _ _ ⟨(blk_cell BK288.out 0).trans rfl, (blk_cell BK288.out 1).trans rfl, (blk_cell BK288.out 2).trans rfl, (blk_cell BK288.out 3).trans rfl, (blk_cell BK288.out 4).trans rfl, (blk_cell BK305.out 0).trans rfl, (blk_cell BK305.out 1).trans rfl, (blk_cell BK305.out 2).trans rfl, (blk_cell BK305.out 3).trans rfl, (blk_cell BK305.out 4).trans rfl, (blk_cell BK312.out 0).trans rfl, (blk_cell BK312.out 1).trans rfl, (blk_cell BK312.out 2).trans rfl, (blk_cell BK312.out 3).trans rfl, (blk_cell BK312.out 4).trans rfl⟩ (fun hHeld => ?_)
 clear hK K
 refine norm_ (a' := ?_) ?_ ?_
 rotate_left
 ·show Act.put _ (some 91) _ = _
  simp only [Act.put, List.setIfInBounds_toArray, List.set_cons_zero, List.set_cons_succ, i64_w, i32_w]
  rfl
 refine pure_ (i := 40) (N := some 92) (v := ?_) (a' := ?_) #[tt, tt, tt, tt, tt, tt, tt, tt, tt, tt, tt, tt, tt, tt, tt, tt, tt, tt, tt, tt, tt, tt, tt, tt, tt, tt, tt, tt, tt, tt, tt, tt, tt, tt, tt, tt, tt, tt, tt, tt, tt, ff] rfl rfl (any_of HT_.out (by kernel_rfl)) (fun _ _ _ h => h) (Or.inl ⟨by rfl, ?_⟩) ?_ ?_
 rotate_left
 ·intro w'
  go_simp
  with_reducible rfl
 rotate_left
 ·exact aP
 refine pure_ (i := 41) (N := some 6) (v := ?_) (a' := ?_) #[tt, tt, tt, tt, tt, tt, tt, tt, tt, tt, tt, tt, tt, tt, tt, tt, tt, tt, tt, tt, tt, tt, tt, tt, tt, tt, tt, tt, tt, tt, tt, tt, tt, tt, tt, tt, tt, tt, tt, tt, tt, tt] rfl rfl (any_of HT_.out (by kernel_rfl)) (fun _ _ _ h => h) (Or.inl ⟨by rfl, ?_⟩) ?_ ?_
 rotate_left
 ·intro w'
  go_simp
  with_reducible rfl
 rotate_left
 ·exact aP
 refine done_ (done_of HT_.out (by kernel_rfl)) ?_
 try go_wp2
 go_ret
 exact ⟨by first | rfl | (simp [errW_none, errW_some] <;> rfl) | (simp only [← hji4, ← hjs7, ← hji8, ← hjs11]; first | rfl | (simp [errW_none, errW_some] <;> rfl)) | (simp [*, errW_none, errW_some] <;> rfl), by repeat (first | (with_reducible first | exact HB.out | apply below_alloc | apply pw_below_drewN | apply below_drew1 | refine below_set ?_ GE288.out | refine below_set ?_ GE289.out | refine below_set ?_ GE305.out | refine below_set ?_ GE312.out) | exact HB.out)⟩
end Go.Proofs.Ytnkndnpnjbcaoaa.P
