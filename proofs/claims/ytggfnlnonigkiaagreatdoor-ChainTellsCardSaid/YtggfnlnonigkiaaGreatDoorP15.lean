/- What is proved here: for functions of the Go text, a Lean function each, and that the call comes to just what it answers. Conditions: as each contract names them. Written by wip/tools/myprint.py, a driver of the print of the kit. -/
import Derived.Test.YtggfnlnonigkiaaGreatDoorP0
import Derived.Test.YtggfnlnonigkiaaGreatDoorP2
import Derived.Test.YtggfnlnonigkiaaGreatDoorP3
import Derived.Test.YtggfnlnonigkiaaGreatDoorP5
import Derived.Test.YtggfnlnonigkiaaGreatDoorP6
import Derived.Test.YtggfnlnonigkiaaGreatDoorP7
import Derived.Test.YtggfnlnonigkiaaGreatDoorP11
import Derived.Test.YtggfnlnonigkiaaGreatDoorP13
import Derived.Test.YtggfnlnonigkiaaGreatDoorP14
import Derived.Test.YtggfnlnonigkiaaGreatDoorWAbbr
namespace Go.Proofs.YtggfnlnonigkiaaGreatDoor.P
open Go.RowKit Go.Proofs.YtggfnlnonigkiaaGreatDoorW.PrintWords Go.Proofs.YtggfnlnonigkiaaGreatDoorW.PrintLast Go.Proofs.YtggfnlnonigkiaaGreatDoorW.PrintMore Go.Proofs.YtggfnlnonigkiaaGreatDoorW.Abbr
-- PACKED
attribute [local go_sem] max2_int min2_int max_two min_two max_three min_three max_four min_four Go.Proofs.YtggfnlnonigkiaaGreatDoorLaws.str_leq Go.Proofs.YtggfnlnonigkiaaGreatDoorLaws.str_gtr Go.Proofs.YtggfnlnonigkiaaGreatDoorLaws.str_geq Go.Proofs.YtggfnlnonigkiaaGreatDoorLaws.max2_str Go.Proofs.YtggfnlnonigkiaaGreatDoorLaws.min2_str   -- for this text's walks alone
set_option linter.unusedVariables false
set_option linter.unusedSimpArgs false

attribute [local go_sem high] eqA31
/-! ### withylaw12_ChainTells: function 3 -/
def withylaw12_ChainTells.j0 : Nat → Int → ByteArray → Bool → ByteArray → ByteArray → Int → Option (Bool)
 | 0, _, _, _, _, _, _ => none
 | k + 1, x1, x8, x84, x279000, x279001, x279002 => if x84 = true then (none) else ((withyref06_Size.f x1).bind fun t307 => (if t307 = true then ((chain_Parts.f k x8 x1).bind fun t309 => ((withyref12_Parts.f k x8 x1).bind fun t312 => ((withyref01_Words.f k t309 t312).bind fun t315 => (if t315 = true then ((chain_Pages.f x279002 x1).bind fun t316 => ((withyref12_Pages.f x279002 x1).bind fun t317 => (if t316 = t317 then ((withylaw12_fixed.f k).bind fun t318 => (some t318)) else (none)))) else (none))))) else ((withylaw12_fixed.f k).bind fun t308 => (some t308))))
def withylaw12_ChainTells.f (k : Nat) (a0_0 : Int) (a0_1 : Int) (a0_2 : ByteArray) (a1 : Int) (a2_0 : ByteArray) (a2_1 : ByteArray) (a2_2 : Int) : Option (Bool) := (withylaw12_Cut.f a0_0 a0_1 a0_2).bind fun bt279 => (if 0 ≤ (mn (a2_0.size : Int) 1100) then (if (mn (a2_0.size : Int) 1100) ≤ (a2_0.size : Int) then (if 0 ≤ (mn (a2_1.size : Int) 3000) then (if (mn (a2_1.size : Int) 3000) ≤ (a2_1.size : Int) then ((chain_Encode.f k bt279.1 bt279.2.1 bt279.2.2 a1).bind fun bt282 => ((withylaw12_Ref.f bt279.1 bt279.2.1 bt279.2.2).bind fun bt284 => ((withyref12_Encode.f k bt284.1 bt284.2.1 bt284.2.2 a1).bind fun bt287 => ((chain_Decode.f k (a2_0.extract 0 ((mn (a2_0.size : Int) 1100) : Int).toNat)).bind fun bt289 => ((withyref12_Decode.f k (a2_0.extract 0 ((mn (a2_0.size : Int) 1100) : Int).toNat)).bind fun bt294 => ((chain_May.f bt279.1 bt279.2.1 bt279.2.2 a1).bind fun t299 => ((withylaw12_Ref.f bt279.1 bt279.2.1 bt279.2.2).bind fun bt300 => ((withyref12_May.f bt300.1 bt300.2.1 bt300.2.2 a1).bind fun t303 => (if (t299 != t303) = true then (withylaw12_ChainTells.j0 k a1 (a2_1.extract 0 ((mn (a2_1.size : Int) 3000) : Int).toNat) true a2_0 a2_1 a2_2) else (if bt282.1.toList = bt287.1.toList then (if bt282.2 = bt287.2 then ((withylaw12_Ref.f bt289.1 bt289.2.1 bt289.2.2.1).bind fun bt304 => (if (!(bt304.1 == bt294.1) || (!(bt304.2.1 == bt294.2.1) || (!(bt304.2.2.toList == bt294.2.2.1.toList)))) = true then (withylaw12_ChainTells.j0 k a1 (a2_1.extract 0 ((mn (a2_1.size : Int) 3000) : Int).toNat) true a2_0 a2_1 a2_2) else (withylaw12_ChainTells.j0 k a1 (a2_1.extract 0 ((mn (a2_1.size : Int) 3000) : Int).toNat) (bt289.2.2.2 != bt294.2.2.2) a2_0 a2_1 a2_2))) else (withylaw12_ChainTells.j0 k a1 (a2_1.extract 0 ((mn (a2_1.size : Int) 3000) : Int).toNat) true a2_0 a2_1 a2_2)) else (withylaw12_ChainTells.j0 k a1 (a2_1.extract 0 ((mn (a2_1.size : Int) 3000) : Int).toNat) true a2_0 a2_1 a2_2))))))))))) else (none)) else (none)) else (none)) else (none))
theorem withylaw12_ChainTells.mono_l : ∀ k, (∀ y0 y1 y2 y3 y4 y5, LeO (withylaw12_ChainTells.j0 k y0 y1 y2 y3 y4 y5) (withylaw12_ChainTells.j0 (k + 1) y0 y1 y2 y3 y4 y5))
 | 0 => fun _ _ _ _ _ _ r h => by simp [withylaw12_ChainTells.j0] at h
 | k + 1 => by
  have ih0 := withylaw12_ChainTells.mono_l k
  ·intro y0 y1 y2 y3 y4 y5
   unfold withylaw12_ChainTells.j0
   repeat' first
   | (with_reducible exact ih0 _ _ _ _ _ _)
   | (with_reducible exact chain_Decode.mono _ _)
   | (with_reducible exact chain_Encode.mono _ _ _ _ _)
   | (with_reducible exact chain_Parts.mono _ _ _)
   | (with_reducible exact withylaw12_fixed.mono _)
   | (with_reducible exact withyref01_Words.mono _ _ _)
   | (with_reducible exact withyref12_Decode.mono _ _)
   | (with_reducible exact withyref12_Encode.mono _ _ _ _ _)
   | (with_reducible exact withyref12_Parts.mono _ _ _)
   | (with_reducible exact LeO.refl _)
   | (with_reducible exact LeO.none _)
   | (with_reducible refine LeO.ite ?_ ?_)
   | (with_reducible refine LeO.bind ?_ (fun _ => ?_))
   | exact ih0 _ _ _ _ _ _
   | exact chain_Decode.mono _ _
   | exact chain_Encode.mono _ _ _ _ _
   | exact chain_Parts.mono _ _ _
   | exact withylaw12_fixed.mono _
   | exact withyref01_Words.mono _ _ _
   | exact withyref12_Decode.mono _ _
   | exact withyref12_Encode.mono _ _ _ _ _
   | exact withyref12_Parts.mono _ _ _
   | exact LeO.none _
   | refine LeO.ite ?_ ?_
   | refine LeO.bind ?_ (fun _ => ?_)
theorem withylaw12_ChainTells.mono : ∀ a0 a1 a2 a3 a4 a5 a6 k, LeO (withylaw12_ChainTells.f k a0 a1 a2 a3 a4 a5 a6) (withylaw12_ChainTells.f (k + 1) a0 a1 a2 a3 a4 a5 a6) := by
 intro a0 a1 a2 a3 a4 a5 a6 k
 have ih0 := withylaw12_ChainTells.mono_l k
 unfold withylaw12_ChainTells.f
 repeat' first
   | (with_reducible exact ih0 _ _ _ _ _ _)
   | (with_reducible exact chain_Decode.mono _ _)
   | (with_reducible exact chain_Encode.mono _ _ _ _ _)
   | (with_reducible exact chain_Parts.mono _ _ _)
   | (with_reducible exact withylaw12_fixed.mono _)
   | (with_reducible exact withyref01_Words.mono _ _ _)
   | (with_reducible exact withyref12_Decode.mono _ _)
   | (with_reducible exact withyref12_Encode.mono _ _ _ _ _)
   | (with_reducible exact withyref12_Parts.mono _ _ _)
   | (with_reducible exact LeO.refl _)
   | (with_reducible exact LeO.none _)
   | (with_reducible refine LeO.ite ?_ ?_)
   | (with_reducible refine LeO.bind ?_ (fun _ => ?_))
   | exact ih0 _ _ _ _ _ _
   | exact chain_Decode.mono _ _
   | exact chain_Encode.mono _ _ _ _ _
   | exact chain_Parts.mono _ _ _
   | exact withylaw12_fixed.mono _
   | exact withyref01_Words.mono _ _ _
   | exact withyref12_Decode.mono _ _
   | exact withyref12_Encode.mono _ _ _ _ _
   | exact withyref12_Parts.mono _ _ _
   | exact LeO.none _
   | refine LeO.ite ?_ ?_
   | refine LeO.bind ?_ (fun _ => ?_)
def withylaw12_ChainTells.T8 : Bool × List (List Nat × List Nat) := (true, [([], []), ([], []), ([0, 1], [0, 1]), ([], []), ([3, 2], [3]), ([], []), ([4, 5, 4], [4, 5]), ([2, 6], [2, 6]), ([7, 6], [7]), ([8], [8]), ([8], [8]), ([9, 10, 8], [8, 9, 10]), ([8, 11], [8, 11]), ([12, 8], [12]), ([13], [13]), ([13], [13]), ([14, 15, 13], [13, 14, 15]), ([13, 16], [13, 16]), ([17, 13], [17]), ([18], [18]), ([19, 18, 18], [18, 19]), ([18], [18]), ([20, 21, 18], [18, 20, 21]), ([18, 22], [18, 22]), ([23, 20], [23]), ([24], [24]), ([24], [24]), ([25, 26, 24], [24, 25, 26]), ([24, 27], [24, 27])])
def withylaw12_ChainTells.B8 : List Nat := [0, 0, 3, 0, 15, 0, 63, 127, 255, 511, 511, 2047, 4095, 8191, 16383, 16383, 65535, 131071, 262143, 524287, 1048575, 524287, 4194303, 8388607, 16777215, 33554431, 33554431, 134217727, 268435455]
theorem withylaw12_ChainTells.tab8 : rtab .any (opsOf Tryz.f3 8) = withylaw12_ChainTells.T8 := by kernel_rfl
theorem withylaw12_ChainTells.bits8 : waitsOk withylaw12_ChainTells.T8.2 withylaw12_ChainTells.B8 = true := by kernel_rfl
def withylaw12_ChainTells.T12 : Bool × List (List Nat × List Nat) := (true, [([], []), ([], []), ([0, 1], [0, 1]), ([], []), ([], []), ([3, 4, 2], [3, 4]), ([2, 5, 5], [2, 5]), ([6, 6], [6]), ([7], [7]), ([8, 7], [7, 8]), ([7], [7]), ([9, 10, 7, 7], [7, 9, 10]), ([7], [7]), ([12, 7], [7, 12]), ([7], [7]), ([13, 14, 11, 7], [7, 13, 14]), ([11, 15, 7], [7, 11, 15]), ([7, 16], [7, 16]), ([17, 15], [17]), ([18, 18], [18]), ([18, 19], [18, 19]), ([20, 19, 0, 1, 2, 3, 4, 5, 6, 7, 8, 9, 10, 11, 12, 13, 14, 15, 16, 17, 18, 19, 20], [20])])
def withylaw12_ChainTells.B12 : List Nat := [0, 0, 3, 0, 0, 31, 63, 127, 255, 511, 255, 2047, 255, 4351, 255, 32767, 65535, 131071, 262143, 524287, 1048575, 2097151]
theorem withylaw12_ChainTells.tab12 : rtab .any (opsOf Tryz.f3 12) = withylaw12_ChainTells.T12 := by kernel_rfl
theorem withylaw12_ChainTells.bits12 : waitsOk withylaw12_ChainTells.T12.2 withylaw12_ChainTells.B12 = true := by kernel_rfl
set_option maxHeartbeats 8000000 in
set_option maxRecDepth 100000 in
theorem withylaw12_ChainTells.calls (k : Nat) (a0_0 : Int) (a0_1 : Int) (a0_2 : ByteArray) (a1 : Int) (a2_0 : ByteArray) (a2_1 : ByteArray) (a2_2 : Int) (r : Bool) (w : World) (h : withylaw12_ChainTells.f k a0_0 a0_1 a0_2 a1 a2_0 a2_1 a2_2 = some r) :
  Calls Tryz.prog 3 #[.agg #[.int .i64 a0_0, .int .i64 a0_1, .string a0_2], .int .i64 a1, .agg #[.string a2_0, .string a2_1, .int .i64 a2_2]] w fun e w' => e = .returned (.bool r) ∧ Below w.heap.size w w' := by
 have hu23 := Tryz.underlying23
 have hu25 := Tryz.underlying25
 have hu31 := Tryz.underlying31
 have HB := as_ (Below.refl w.heap.size w)
 have H : ((withylaw12_Cut.f a0_0 a0_1 a0_2).bind fun bt279 => (if 0 ≤ (mn (a2_0.size : Int) 1100) then (if (mn (a2_0.size : Int) 1100) ≤ (a2_0.size : Int) then (if 0 ≤ (mn (a2_1.size : Int) 3000) then (if (mn (a2_1.size : Int) 3000) ≤ (a2_1.size : Int) then ((chain_Encode.f k bt279.1 bt279.2.1 bt279.2.2 a1).bind fun bt282 => ((withylaw12_Ref.f bt279.1 bt279.2.1 bt279.2.2).bind fun bt284 => ((withyref12_Encode.f k bt284.1 bt284.2.1 bt284.2.2 a1).bind fun bt287 => ((chain_Decode.f k (a2_0.extract 0 ((mn (a2_0.size : Int) 1100) : Int).toNat)).bind fun bt289 => ((withyref12_Decode.f k (a2_0.extract 0 ((mn (a2_0.size : Int) 1100) : Int).toNat)).bind fun bt294 => ((chain_May.f bt279.1 bt279.2.1 bt279.2.2 a1).bind fun t299 => ((withylaw12_Ref.f bt279.1 bt279.2.1 bt279.2.2).bind fun bt300 => ((withyref12_May.f bt300.1 bt300.2.1 bt300.2.2 a1).bind fun t303 => (if (t299 != t303) = true then (withylaw12_ChainTells.j0 k a1 (a2_1.extract 0 ((mn (a2_1.size : Int) 3000) : Int).toNat) true a2_0 a2_1 a2_2) else (if bt282.1.toList = bt287.1.toList then (if bt282.2 = bt287.2 then ((withylaw12_Ref.f bt289.1 bt289.2.1 bt289.2.2.1).bind fun bt304 => (if (!(bt304.1 == bt294.1) || (!(bt304.2.1 == bt294.2.1) || (!(bt304.2.2.toList == bt294.2.2.1.toList)))) = true then (withylaw12_ChainTells.j0 k a1 (a2_1.extract 0 ((mn (a2_1.size : Int) 3000) : Int).toNat) true a2_0 a2_1 a2_2) else (withylaw12_ChainTells.j0 k a1 (a2_1.extract 0 ((mn (a2_1.size : Int) 3000) : Int).toNat) (bt289.2.2.2 != bt294.2.2.2) a2_0 a2_1 a2_2))) else (withylaw12_ChainTells.j0 k a1 (a2_1.extract 0 ((mn (a2_1.size : Int) 3000) : Int).toNat) true a2_0 a2_1 a2_2)) else (withylaw12_ChainTells.j0 k a1 (a2_1.extract 0 ((mn (a2_1.size : Int) 3000) : Int).toNat) true a2_0 a2_1 a2_2))))))))))) else (none)) else (none)) else (none)) else (none))) = some r := h
 clear h
 replace H := bM H
 obtain ⟨⟨t279, t280, t281⟩, A40, H⟩ := H
 replace H : (if 0 ≤ (mn (a2_0.size : Int) 1100) then (if (mn (a2_0.size : Int) 1100) ≤ (a2_0.size : Int) then (if 0 ≤ (mn (a2_1.size : Int) 3000) then (if (mn (a2_1.size : Int) 3000) ≤ (a2_1.size : Int) then ((chain_Encode.f k t279 t280 t281 a1).bind fun bt282 => ((withylaw12_Ref.f t279 t280 t281).bind fun bt284 => ((withyref12_Encode.f k bt284.1 bt284.2.1 bt284.2.2 a1).bind fun bt287 => ((chain_Decode.f k (a2_0.extract 0 ((mn (a2_0.size : Int) 1100) : Int).toNat)).bind fun bt289 => ((withyref12_Decode.f k (a2_0.extract 0 ((mn (a2_0.size : Int) 1100) : Int).toNat)).bind fun bt294 => ((chain_May.f t279 t280 t281 a1).bind fun t299 => ((withylaw12_Ref.f t279 t280 t281).bind fun bt300 => ((withyref12_May.f bt300.1 bt300.2.1 bt300.2.2 a1).bind fun t303 => (if (t299 != t303) = true then (withylaw12_ChainTells.j0 k a1 (a2_1.extract 0 ((mn (a2_1.size : Int) 3000) : Int).toNat) true a2_0 a2_1 a2_2) else (if bt282.1.toList = bt287.1.toList then (if bt282.2 = bt287.2 then ((withylaw12_Ref.f bt289.1 bt289.2.1 bt289.2.2.1).bind fun bt304 => (if (!(bt304.1 == bt294.1) || (!(bt304.2.1 == bt294.2.1) || (!(bt304.2.2.toList == bt294.2.2.1.toList)))) = true then (withylaw12_ChainTells.j0 k a1 (a2_1.extract 0 ((mn (a2_1.size : Int) 3000) : Int).toNat) true a2_0 a2_1 a2_2) else (withylaw12_ChainTells.j0 k a1 (a2_1.extract 0 ((mn (a2_1.size : Int) 3000) : Int).toNat) (bt289.2.2.2 != bt294.2.2.2) a2_0 a2_1 a2_2))) else (withylaw12_ChainTells.j0 k a1 (a2_1.extract 0 ((mn (a2_1.size : Int) 3000) : Int).toNat) true a2_0 a2_1 a2_2)) else (withylaw12_ChainTells.j0 k a1 (a2_1.extract 0 ((mn (a2_1.size : Int) 3000) : Int).toNat) true a2_0 a2_1 a2_2))))))))))) else (none)) else (none)) else (none)) else (none)) = some r := H
 have A4 := Aside0.mk A40
 clear A40
 obtain ⟨ji5, hji5⟩ : ∃ j_ : Int, (mn (a2_0.size : Int) 1100) = j_ := ⟨_, rfl⟩
 replace H : (if 0 ≤ (ji5) then (if (ji5) ≤ (a2_0.size : Int) then (if 0 ≤ (mn (a2_1.size : Int) 3000) then (if (mn (a2_1.size : Int) 3000) ≤ (a2_1.size : Int) then ((chain_Encode.f k t279 t280 t281 a1).bind fun bt282 => ((withylaw12_Ref.f t279 t280 t281).bind fun bt284 => ((withyref12_Encode.f k bt284.1 bt284.2.1 bt284.2.2 a1).bind fun bt287 => ((chain_Decode.f k (a2_0.extract 0 ((ji5) : Int).toNat)).bind fun bt289 => ((withyref12_Decode.f k (a2_0.extract 0 ((ji5) : Int).toNat)).bind fun bt294 => ((chain_May.f t279 t280 t281 a1).bind fun t299 => ((withylaw12_Ref.f t279 t280 t281).bind fun bt300 => ((withyref12_May.f bt300.1 bt300.2.1 bt300.2.2 a1).bind fun t303 => (if (t299 != t303) = true then (withylaw12_ChainTells.j0 k a1 (a2_1.extract 0 ((mn (a2_1.size : Int) 3000) : Int).toNat) true a2_0 a2_1 a2_2) else (if bt282.1.toList = bt287.1.toList then (if bt282.2 = bt287.2 then ((withylaw12_Ref.f bt289.1 bt289.2.1 bt289.2.2.1).bind fun bt304 => (if (!(bt304.1 == bt294.1) || (!(bt304.2.1 == bt294.2.1) || (!(bt304.2.2.toList == bt294.2.2.1.toList)))) = true then (withylaw12_ChainTells.j0 k a1 (a2_1.extract 0 ((mn (a2_1.size : Int) 3000) : Int).toNat) true a2_0 a2_1 a2_2) else (withylaw12_ChainTells.j0 k a1 (a2_1.extract 0 ((mn (a2_1.size : Int) 3000) : Int).toNat) (bt289.2.2.2 != bt294.2.2.2) a2_0 a2_1 a2_2))) else (withylaw12_ChainTells.j0 k a1 (a2_1.extract 0 ((mn (a2_1.size : Int) 3000) : Int).toNat) true a2_0 a2_1 a2_2)) else (withylaw12_ChainTells.j0 k a1 (a2_1.extract 0 ((mn (a2_1.size : Int) 3000) : Int).toNat) true a2_0 a2_1 a2_2))))))))))) else (none)) else (none)) else (none)) else (none)) = some r := by first | (rw [hji5] at H; exact H) | (simp only [hji5] at H ⊢; exact H)
 (try rw [hji5] at A4)
 (try (have hji5h : ji5 ≤ 1100 := by (rw [← hji5]; unfold mn; (repeat' split) <;> omega)))
 (try (have hji5g : ji5 ≤ 64 := by omega))
 (try (have hji5l : 0 ≤ ji5 := by (rw [← hji5]; unfold mn; (repeat' split) <;> omega)))
 (try (have hji5m : 0 ≤ ji5 := by omega))
 have hji5_ : (if 1100 < (a2_0.size : Int) then 1100 else (a2_0.size : Int)) = ji5 := hji5
 by_cases c6 : 0 ≤ (ji5)
 rotate_left
 ·rw [if_neg c6] at H
  exact absurd H (by simp)
 
 rw [if_pos c6] at H
 have c6b0 := eq_true c6
 have c6b1 : decide (0 ≤ (ji5)) = true := decide_eq_true c6
 clear c6
 by_cases c7 : (ji5) ≤ (a2_0.size : Int)
 rotate_left
 ·rw [if_neg c7] at H
  exact absurd H (by simp)
 rw [if_pos c7] at H
 have c7b0 := eq_true c7
 have c7b1 : decide ((ji5) ≤ (a2_0.size : Int)) = true := decide_eq_true c7
 clear c7
 obtain ⟨js8, hjs8⟩ : ∃ j_ : ByteArray, (a2_0.extract 0 ((ji5) : Int).toNat) = j_ := ⟨_, rfl⟩
 replace H : (if 0 ≤ (mn (a2_1.size : Int) 3000) then (if (mn (a2_1.size : Int) 3000) ≤ (a2_1.size : Int) then ((chain_Encode.f k t279 t280 t281 a1).bind fun bt282 => ((withylaw12_Ref.f t279 t280 t281).bind fun bt284 => ((withyref12_Encode.f k bt284.1 bt284.2.1 bt284.2.2 a1).bind fun bt287 => ((chain_Decode.f k (js8)).bind fun bt289 => ((withyref12_Decode.f k (js8)).bind fun bt294 => ((chain_May.f t279 t280 t281 a1).bind fun t299 => ((withylaw12_Ref.f t279 t280 t281).bind fun bt300 => ((withyref12_May.f bt300.1 bt300.2.1 bt300.2.2 a1).bind fun t303 => (if (t299 != t303) = true then (withylaw12_ChainTells.j0 k a1 (a2_1.extract 0 ((mn (a2_1.size : Int) 3000) : Int).toNat) true a2_0 a2_1 a2_2) else (if bt282.1.toList = bt287.1.toList then (if bt282.2 = bt287.2 then ((withylaw12_Ref.f bt289.1 bt289.2.1 bt289.2.2.1).bind fun bt304 => (if (!(bt304.1 == bt294.1) || (!(bt304.2.1 == bt294.2.1) || (!(bt304.2.2.toList == bt294.2.2.1.toList)))) = true then (withylaw12_ChainTells.j0 k a1 (a2_1.extract 0 ((mn (a2_1.size : Int) 3000) : Int).toNat) true a2_0 a2_1 a2_2) else (withylaw12_ChainTells.j0 k a1 (a2_1.extract 0 ((mn (a2_1.size : Int) 3000) : Int).toNat) (bt289.2.2.2 != bt294.2.2.2) a2_0 a2_1 a2_2))) else (withylaw12_ChainTells.j0 k a1 (a2_1.extract 0 ((mn (a2_1.size : Int) 3000) : Int).toNat) true a2_0 a2_1 a2_2)) else (withylaw12_ChainTells.j0 k a1 (a2_1.extract 0 ((mn (a2_1.size : Int) 3000) : Int).toNat) true a2_0 a2_1 a2_2))))))))))) else (none)) else (none)) = some r := by first | (rw [hjs8] at H; exact H) | (simp only [hjs8] at H ⊢; exact H)
 (try rw [hjs8] at A4)
 obtain ⟨ji9, hji9⟩ : ∃ j_ : Int, (mn (a2_1.size : Int) 3000) = j_ := ⟨_, rfl⟩
 replace H : (if 0 ≤ (ji9) then (if (ji9) ≤ (a2_1.size : Int) then ((chain_Encode.f k t279 t280 t281 a1).bind fun bt282 => ((withylaw12_Ref.f t279 t280 t281).bind fun bt284 => ((withyref12_Encode.f k bt284.1 bt284.2.1 bt284.2.2 a1).bind fun bt287 => ((chain_Decode.f k (js8)).bind fun bt289 => ((withyref12_Decode.f k (js8)).bind fun bt294 => ((chain_May.f t279 t280 t281 a1).bind fun t299 => ((withylaw12_Ref.f t279 t280 t281).bind fun bt300 => ((withyref12_May.f bt300.1 bt300.2.1 bt300.2.2 a1).bind fun t303 => (if (t299 != t303) = true then (withylaw12_ChainTells.j0 k a1 (a2_1.extract 0 ((ji9) : Int).toNat) true a2_0 a2_1 a2_2) else (if bt282.1.toList = bt287.1.toList then (if bt282.2 = bt287.2 then ((withylaw12_Ref.f bt289.1 bt289.2.1 bt289.2.2.1).bind fun bt304 => (if (!(bt304.1 == bt294.1) || (!(bt304.2.1 == bt294.2.1) || (!(bt304.2.2.toList == bt294.2.2.1.toList)))) = true then (withylaw12_ChainTells.j0 k a1 (a2_1.extract 0 ((ji9) : Int).toNat) true a2_0 a2_1 a2_2) else (withylaw12_ChainTells.j0 k a1 (a2_1.extract 0 ((ji9) : Int).toNat) (bt289.2.2.2 != bt294.2.2.2) a2_0 a2_1 a2_2))) else (withylaw12_ChainTells.j0 k a1 (a2_1.extract 0 ((ji9) : Int).toNat) true a2_0 a2_1 a2_2)) else (withylaw12_ChainTells.j0 k a1 (a2_1.extract 0 ((ji9) : Int).toNat) true a2_0 a2_1 a2_2))))))))))) else (none)) else (none)) = some r := by first | (rw [hji9] at H; exact H) | (simp only [hji9] at H ⊢; exact H)
 (try rw [hji9] at A4)
 (try (have hji9h : ji9 ≤ 3000 := by (rw [← hji9]; unfold mn; (repeat' split) <;> omega)))
 (try (have hji9g : ji9 ≤ 64 := by omega))
 (try (have hji9l : 0 ≤ ji9 := by (rw [← hji9]; unfold mn; (repeat' split) <;> omega)))
 (try (have hji9m : 0 ≤ ji9 := by omega))
 have hji9_ : (if 3000 < (a2_1.size : Int) then 3000 else (a2_1.size : Int)) = ji9 := hji9
 by_cases c10 : 0 ≤ (ji9)
 rotate_left
 ·rw [if_neg c10] at H
  exact absurd H (by simp)
 rw [if_pos c10] at H
 have c10b0 := eq_true c10
 have c10b1 : decide (0 ≤ (ji9)) = true := decide_eq_true c10
 clear c10
 by_cases c11 : (ji9) ≤ (a2_1.size : Int)
 rotate_left
 ·rw [if_neg c11] at H
  exact absurd H (by simp)
 rw [if_pos c11] at H
 have c11b0 := eq_true c11
 have c11b1 : decide ((ji9) ≤ (a2_1.size : Int)) = true := decide_eq_true c11
 clear c11
 obtain ⟨js12, hjs12⟩ : ∃ j_ : ByteArray, (a2_1.extract 0 ((ji9) : Int).toNat) = j_ := ⟨_, rfl⟩
 replace H : ((chain_Encode.f k t279 t280 t281 a1).bind fun bt282 => ((withylaw12_Ref.f t279 t280 t281).bind fun bt284 => ((withyref12_Encode.f k bt284.1 bt284.2.1 bt284.2.2 a1).bind fun bt287 => ((chain_Decode.f k (js8)).bind fun bt289 => ((withyref12_Decode.f k (js8)).bind fun bt294 => ((chain_May.f t279 t280 t281 a1).bind fun t299 => ((withylaw12_Ref.f t279 t280 t281).bind fun bt300 => ((withyref12_May.f bt300.1 bt300.2.1 bt300.2.2 a1).bind fun t303 => (if (t299 != t303) = true then (withylaw12_ChainTells.j0 k a1 js12 true a2_0 a2_1 a2_2) else (if bt282.1.toList = bt287.1.toList then (if bt282.2 = bt287.2 then ((withylaw12_Ref.f bt289.1 bt289.2.1 bt289.2.2.1).bind fun bt304 => (if (!(bt304.1 == bt294.1) || (!(bt304.2.1 == bt294.2.1) || (!(bt304.2.2.toList == bt294.2.2.1.toList)))) = true then (withylaw12_ChainTells.j0 k a1 js12 true a2_0 a2_1 a2_2) else (withylaw12_ChainTells.j0 k a1 js12 (bt289.2.2.2 != bt294.2.2.2) a2_0 a2_1 a2_2))) else (withylaw12_ChainTells.j0 k a1 js12 true a2_0 a2_1 a2_2)) else (withylaw12_ChainTells.j0 k a1 js12 true a2_0 a2_1 a2_2))))))))))) = some r := by first | (rw [hjs12] at H; exact H) | (simp only [hjs12] at H ⊢; exact H)
 (try rw [hjs12] at A4)
 replace H := bM H
 obtain ⟨⟨t282, t283⟩, A130, H⟩ := H
 replace H : ((withylaw12_Ref.f t279 t280 t281).bind fun bt284 => ((withyref12_Encode.f k bt284.1 bt284.2.1 bt284.2.2 a1).bind fun bt287 => ((chain_Decode.f k (js8)).bind fun bt289 => ((withyref12_Decode.f k (js8)).bind fun bt294 => ((chain_May.f t279 t280 t281 a1).bind fun t299 => ((withylaw12_Ref.f t279 t280 t281).bind fun bt300 => ((withyref12_May.f bt300.1 bt300.2.1 bt300.2.2 a1).bind fun t303 => (if (t299 != t303) = true then (withylaw12_ChainTells.j0 k a1 js12 true a2_0 a2_1 a2_2) else (if t282.toList = bt287.1.toList then (if t283 = bt287.2 then ((withylaw12_Ref.f bt289.1 bt289.2.1 bt289.2.2.1).bind fun bt304 => (if (!(bt304.1 == bt294.1) || (!(bt304.2.1 == bt294.2.1) || (!(bt304.2.2.toList == bt294.2.2.1.toList)))) = true then (withylaw12_ChainTells.j0 k a1 js12 true a2_0 a2_1 a2_2) else (withylaw12_ChainTells.j0 k a1 js12 (bt289.2.2.2 != bt294.2.2.2) a2_0 a2_1 a2_2))) else (withylaw12_ChainTells.j0 k a1 js12 true a2_0 a2_1 a2_2)) else (withylaw12_ChainTells.j0 k a1 js12 true a2_0 a2_1 a2_2)))))))))) = some r := H
 have A13 := Aside0.mk A130
 clear A130
 replace H := bM H
 obtain ⟨⟨t284, t285, t286⟩, A140, H⟩ := H
 replace H : ((withyref12_Encode.f k t284 t285 t286 a1).bind fun bt287 => ((chain_Decode.f k (js8)).bind fun bt289 => ((withyref12_Decode.f k (js8)).bind fun bt294 => ((chain_May.f t279 t280 t281 a1).bind fun t299 => ((withylaw12_Ref.f t279 t280 t281).bind fun bt300 => ((withyref12_May.f bt300.1 bt300.2.1 bt300.2.2 a1).bind fun t303 => (if (t299 != t303) = true then (withylaw12_ChainTells.j0 k a1 js12 true a2_0 a2_1 a2_2) else (if t282.toList = bt287.1.toList then (if t283 = bt287.2 then ((withylaw12_Ref.f bt289.1 bt289.2.1 bt289.2.2.1).bind fun bt304 => (if (!(bt304.1 == bt294.1) || (!(bt304.2.1 == bt294.2.1) || (!(bt304.2.2.toList == bt294.2.2.1.toList)))) = true then (withylaw12_ChainTells.j0 k a1 js12 true a2_0 a2_1 a2_2) else (withylaw12_ChainTells.j0 k a1 js12 (bt289.2.2.2 != bt294.2.2.2) a2_0 a2_1 a2_2))) else (withylaw12_ChainTells.j0 k a1 js12 true a2_0 a2_1 a2_2)) else (withylaw12_ChainTells.j0 k a1 js12 true a2_0 a2_1 a2_2))))))))) = some r := H
 have A14 := Aside0.mk A140
 clear A140
 replace H := bM H
 obtain ⟨⟨t287, t288⟩, A150, H⟩ := H
 replace H : ((chain_Decode.f k (js8)).bind fun bt289 => ((withyref12_Decode.f k (js8)).bind fun bt294 => ((chain_May.f t279 t280 t281 a1).bind fun t299 => ((withylaw12_Ref.f t279 t280 t281).bind fun bt300 => ((withyref12_May.f bt300.1 bt300.2.1 bt300.2.2 a1).bind fun t303 => (if (t299 != t303) = true then (withylaw12_ChainTells.j0 k a1 js12 true a2_0 a2_1 a2_2) else (if t282.toList = t287.toList then (if t283 = t288 then ((withylaw12_Ref.f bt289.1 bt289.2.1 bt289.2.2.1).bind fun bt304 => (if (!(bt304.1 == bt294.1) || (!(bt304.2.1 == bt294.2.1) || (!(bt304.2.2.toList == bt294.2.2.1.toList)))) = true then (withylaw12_ChainTells.j0 k a1 js12 true a2_0 a2_1 a2_2) else (withylaw12_ChainTells.j0 k a1 js12 (bt289.2.2.2 != bt294.2.2.2) a2_0 a2_1 a2_2))) else (withylaw12_ChainTells.j0 k a1 js12 true a2_0 a2_1 a2_2)) else (withylaw12_ChainTells.j0 k a1 js12 true a2_0 a2_1 a2_2)))))))) = some r := H
 have A15 := Aside0.mk A150
 clear A150
 replace H := bM H
 obtain ⟨⟨t289, t290, t291, t292⟩, A160, H⟩ := H
 replace H : ((withyref12_Decode.f k (js8)).bind fun bt294 => ((chain_May.f t279 t280 t281 a1).bind fun t299 => ((withylaw12_Ref.f t279 t280 t281).bind fun bt300 => ((withyref12_May.f bt300.1 bt300.2.1 bt300.2.2 a1).bind fun t303 => (if (t299 != t303) = true then (withylaw12_ChainTells.j0 k a1 js12 true a2_0 a2_1 a2_2) else (if t282.toList = t287.toList then (if t283 = t288 then ((withylaw12_Ref.f t289 t290 t291).bind fun bt304 => (if (!(bt304.1 == bt294.1) || (!(bt304.2.1 == bt294.2.1) || (!(bt304.2.2.toList == bt294.2.2.1.toList)))) = true then (withylaw12_ChainTells.j0 k a1 js12 true a2_0 a2_1 a2_2) else (withylaw12_ChainTells.j0 k a1 js12 (t292 != bt294.2.2.2) a2_0 a2_1 a2_2))) else (withylaw12_ChainTells.j0 k a1 js12 true a2_0 a2_1 a2_2)) else (withylaw12_ChainTells.j0 k a1 js12 true a2_0 a2_1 a2_2))))))) = some r := H
 have A16 := Aside0.mk A160
 clear A160
 replace H := bM H
 obtain ⟨⟨t294, t295, t296, t297⟩, A170, H⟩ := H
 replace H : ((chain_May.f t279 t280 t281 a1).bind fun t299 => ((withylaw12_Ref.f t279 t280 t281).bind fun bt300 => ((withyref12_May.f bt300.1 bt300.2.1 bt300.2.2 a1).bind fun t303 => (if (t299 != t303) = true then (withylaw12_ChainTells.j0 k a1 js12 true a2_0 a2_1 a2_2) else (if t282.toList = t287.toList then (if t283 = t288 then ((withylaw12_Ref.f t289 t290 t291).bind fun bt304 => (if (!(bt304.1 == t294) || (!(bt304.2.1 == t295) || (!(bt304.2.2.toList == t296.toList)))) = true then (withylaw12_ChainTells.j0 k a1 js12 true a2_0 a2_1 a2_2) else (withylaw12_ChainTells.j0 k a1 js12 (t292 != t297) a2_0 a2_1 a2_2))) else (withylaw12_ChainTells.j0 k a1 js12 true a2_0 a2_1 a2_2)) else (withylaw12_ChainTells.j0 k a1 js12 true a2_0 a2_1 a2_2)))))) = some r := H
 have A17 := Aside0.mk A170
 clear A170
 have HC18 := Aside0.mk H
 clear H
 go_enter Tryz.func3, Tryz.ntmps3
 go_upto_region 8 with (first | ((with_reducible refine gate_dst (N := 3) rfl ?_); refine box_event (by rfl) (N := 3) (by rfl) (cs := #[.int .i64 a0_0, .int .i64 a0_1, .string a0_2]) (t := 23) gS ?_; intro gb277 hg w19 hbox hb; have BK277 := as_ (hbox); have GW277 := gw hg bA; have GE277 := gw hg bA; replace HB := as_ (below_step bA hb); clear hb hbox hg) | ((with_reducible refine gate_dst (N := 5) rfl ?_); refine box_event (by rfl) (N := 5) (by rfl) (cs := #[.string a2_0, .string a2_1, .int .i64 a2_2]) (t := 25) gS ?_; intro gb278 hg w20 hbox hb; have BK278 := as_ (hbox); have GW278 := gw hg bA; have GE278 := gw hg bA; have NB277_278 := nl BK277 hg; have NB278_277 := ng BK277 hg; replace BK277 := bb BK277 hb; replace HB := as_ (below_step bA hb); clear hb hbox hg; have hnb21 := NB277_278.out; have hnc21 := NB278_277.out; obtain ⟨hcz22_0, hcz22_1, hcz22_2⟩ := zc3 BK277; obtain ⟨hfz22_0, hfz22_1, hfz22_2⟩ := zf3 BK277) | ((with_reducible refine gate_callee (f := 4) rfl ?_); refine goesL_ (some 18) rfl rfl Tryz.func4 (by kernel_rfl) rfl #[.agg #[.int .i64 a0_0, .int .i64 a0_1, .string a0_2]] rfl aO ?_; (with_reducible refine (withylaw12_Cut.calls a0_0 a0_1 a0_2 t279 t280 t281 _ A4.out).mono ?_); rintro e w23 ⟨rfl, hb⟩; refine ⟨_, rfl, ?_⟩; replace BK277 := bb BK277 hb; replace BK278 := bb BK278 hb; replace HB := as_ (below_step bA hb); (try clear hb); (try clear hb2); (try clear hk); (try clear hi); obtain ⟨hcz24_0, hcz24_1, hcz24_2⟩ := zc3 BK277; obtain ⟨hfz24_0, hfz24_1, hfz24_2⟩ := zf3 BK277; obtain ⟨hcz25_0, hcz25_1, hcz25_2⟩ := zc3 BK278; obtain ⟨hfz25_0, hfz25_1, hfz25_2⟩ := zf3 BK278) | ((with_reducible refine gate_callee (f := 5) rfl ?_); refine goesL_ (some 36) rfl rfl Tryz.func5 (by kernel_rfl) rfl #[.agg #[.int .i64 t279, .int .i64 t280, .string t281], .int .i64 a1] rfl aO ?_; (with_reducible refine (chain_Encode.calls k t279 t280 t281 a1 t282 t283 _ A13.out).mono ?_); rintro e w26 ⟨rfl, hb⟩; refine ⟨_, rfl, ?_⟩; replace BK277 := as_ (blk_below (g := gb277) (o := .cells #[.int .i64 t279, .int .i64 t280, .string t281] 23 (0, 0)) (by refine bx ?_; refine blk_put (cs := #[.int .i64 t279, .int .i64 t280, .string a0_2]) ?_ 2 _ rfl; refine bx ?_; refine blk_put (cs := #[.int .i64 t279, .int .i64 a0_1, .string a0_2]) ?_ 1 _ rfl; refine bx ?_; refine blk_put (cs := #[.int .i64 a0_0, .int .i64 a0_1, .string a0_2]) ?_ 0 _ rfl; refine bx ?_; exact BK277.out) hb); replace BK278 := as_ (blk_below (g := gb278) (o := .cells #[.string a2_0, .string a2_1, .int .i64 a2_2] 25 (0, 0)) (by refine bx ?_; refine blk_far ?_ NB278_277.out _; refine bx ?_; refine blk_far ?_ NB278_277.out _; refine bx ?_; refine blk_far ?_ NB278_277.out _; refine bx ?_; exact BK278.out) hb); replace HB := as_ (below_step bA hb); (try clear hb); (try clear hb2); (try clear hk); (try clear hi); obtain ⟨hcz27_0, hcz27_1, hcz27_2⟩ := zc3 BK277; obtain ⟨hfz27_0, hfz27_1, hfz27_2⟩ := zf3 BK277) | ((with_reducible refine gate_callee (f := 7) rfl ?_); refine goesL_ (some 41) rfl rfl Tryz.func7 (by kernel_rfl) rfl #[.agg #[.int .i64 t279, .int .i64 t280, .string t281]] rfl aO ?_; (with_reducible refine (withylaw12_Ref.calls t279 t280 t281 t284 t285 t286 _ A14.out).mono ?_); rintro e w28 ⟨rfl, hb⟩; refine ⟨_, rfl, ?_⟩; replace BK277 := bb BK277 hb; replace BK278 := bb BK278 hb; replace HB := as_ (below_step bA hb); (try clear hb); (try clear hb2); (try clear hk); (try clear hi)) | ((with_reducible refine gate_callee (f := 6) rfl ?_); refine goesL_ (some 43) rfl rfl Tryz.func6 (by kernel_rfl) rfl #[.agg #[.int .i64 t284, .int .i64 t285, .string t286], .int .i64 a1] rfl aO ?_; (with_reducible refine (withyref12_Encode.calls k t284 t285 t286 a1 t287 t288 _ A15.out).mono ?_); rintro e w29 ⟨rfl, hb⟩; refine ⟨_, rfl, ?_⟩; replace BK277 := bb BK277 hb; replace BK278 := bb BK278 hb; replace HB := as_ (below_step bA hb); (try clear hb); (try clear hb2); (try clear hk); (try clear hi)) | ((with_reducible refine gate_callee (f := 8) rfl ?_); refine goesL_ (some 48) rfl rfl Tryz.func8 (by kernel_rfl) rfl #[.string js8] rfl aO ?_; (with_reducible refine (chain_Decode.calls k js8 t289 t290 t291 t292 _ A16.out).mono ?_); rintro e w30 ⟨rfl, hb⟩; refine ⟨_, rfl, ?_⟩; replace BK277 := bb BK277 hb; replace BK278 := bb BK278 hb; replace HB := as_ (below_step bA hb); (try clear hb); (try clear hb2); (try clear hk); (try clear hi)) | ((with_reducible refine gate_dst (N := 13) rfl ?_); refine box_event ?hg (N := 13) ?hd (cs := #[.int .i64 0, .int .i64 0, .string (⟨#[]⟩ : ByteArray)]) (t := 23) ?hr ?_; (case hd => rfl); (case hg => rfl); (case hr => first | (go_simp; done) | (go_simp; rfl)); intro gb293 hg w31 hbox hb; have BK293 := as_ (hbox); have GW293 := gw hg bA; have GE293 := gw hg bA; have NB277_293 := nl BK277 hg; have NB293_277 := ng BK277 hg; have NB278_293 := nl BK278 hg; have NB293_278 := ng BK278 hg; replace BK277 := bb BK277 hb; replace BK278 := bb BK278 hb; replace HB := as_ (below_step bA hb); clear hb hbox hg; have hnb32 := NB293_277.out; have hnc32 := NB277_293.out; have hnb33 := NB293_278.out; have hnc33 := NB278_293.out; obtain ⟨hcz34_0, hcz34_1, hcz34_2⟩ := zc3 BK293; obtain ⟨hfz34_0, hfz34_1, hfz34_2⟩ := zf3 BK293) | ((with_reducible refine gate_callee (f := 9) rfl ?_); refine goesL_ (some 53) rfl rfl Tryz.func9 (by kernel_rfl) rfl #[.string js8] rfl aO ?_; (with_reducible refine (withyref12_Decode.calls k js8 t294 t295 t296 t297 _ A17.out).mono ?_); rintro e w35 ⟨rfl, hb⟩; refine ⟨_, rfl, ?_⟩; replace BK277 := as_ (blk_below (g := gb277) (o := .cells #[.int .i64 t279, .int .i64 t280, .string t281] 23 (0, 0)) (by refine bx ?_; refine blk_far ?_ NB277_293.out _; refine bx ?_; refine blk_far ?_ NB277_293.out _; refine bx ?_; refine blk_far ?_ NB277_293.out _; refine bx ?_; exact BK277.out) hb); replace BK278 := as_ (blk_below (g := gb278) (o := .cells #[.string a2_0, .string a2_1, .int .i64 a2_2] 25 (0, 0)) (by refine bx ?_; refine blk_far ?_ NB278_293.out _; refine bx ?_; refine blk_far ?_ NB278_293.out _; refine bx ?_; refine blk_far ?_ NB278_293.out _; refine bx ?_; exact BK278.out) hb); replace BK293 := as_ (blk_below (g := gb293) (o := .cells #[.int .i64 t289, .int .i64 t290, .string t291] 23 (0, 0)) (by refine bx ?_; refine blk_put (cs := #[.int .i64 t289, .int .i64 t290, .string (⟨#[]⟩ : ByteArray)]) ?_ 2 _ rfl; refine bx ?_; refine blk_put (cs := #[.int .i64 t289, .int .i64 0, .string (⟨#[]⟩ : ByteArray)]) ?_ 1 _ rfl; refine bx ?_; refine blk_put (cs := #[.int .i64 0, .int .i64 0, .string (⟨#[]⟩ : ByteArray)]) ?_ 0 _ rfl; refine bx ?_; exact BK293.out) hb); replace HB := as_ (below_step bA hb); (try clear hb); (try clear hb2); (try clear hk); (try clear hi)) | ((with_reducible refine gate_dst (N := 15) rfl ?_); refine box_event ?hg (N := 15) ?hd (cs := #[.int .i64 0, .int .i64 0, .string (⟨#[]⟩ : ByteArray)]) (t := 31) ?hr ?_; (case hd => rfl); (case hg => rfl); (case hr => first | (go_simp; done) | (go_simp; rfl)); intro gb298 hg w36 hbox hb; have BK298 := as_ (hbox); have GW298 := gw hg bA; have GE298 := gw hg bA; have NB277_298 := nl BK277 hg; have NB298_277 := ng BK277 hg; have NB278_298 := nl BK278 hg; have NB298_278 := ng BK278 hg; have NB293_298 := nl BK293 hg; have NB298_293 := ng BK293 hg; replace BK277 := bb BK277 hb; replace BK278 := bb BK278 hb; replace BK293 := bb BK293 hb; replace HB := as_ (below_step bA hb); clear hb hbox hg; have hnb37 := NB298_277.out; have hnc37 := NB277_298.out; have hnb38 := NB298_278.out; have hnc38 := NB278_298.out; have hnb39 := NB298_293.out; have hnc39 := NB293_298.out; obtain ⟨hcz40_0, hcz40_1, hcz40_2⟩ := zc3 BK298; obtain ⟨hfz40_0, hfz40_1, hfz40_2⟩ := zf3 BK298))
 (try simp only [Act.put, List.setIfInBounds_toArray, List.set_cons_zero, List.set_cons_succ])
 go_cut [84] (fun v84 wc => ∃ (kq : Nat) (x84_17 : Bool), v84 = .bool x84_17 ∧ Aside0 (withylaw12_ChainTells.j0 kq a1 js12 x84_17 a2_0 a2_1 a2_2 = some r) ∧ Aside0 (kq ≤ k) ∧ Aside0 (wc.heap[gb277]? = some (.cells #[.int .i64 t279, .int .i64 t280, .string t281] 23 (0, 0))) ∧ Aside0 (wc.heap[gb278]? = some (.cells #[.string a2_0, .string a2_1, .int .i64 a2_2] 25 (0, 0))) ∧ Aside0 (wc.heap[gb293]? = some (.cells #[.int .i64 t289, .int .i64 t290, .string t291] 23 (0, 0))) ∧ Aside0 (wc.heap[gb298]? = some (.cells #[.int .i64 t294, .int .i64 t295, .string t296] 31 (0, 0))) ∧ Aside0 (Below w.heap.size w wc))
 case first =>
  have H := HC18.out
  clear HC18
  replace H := bM H
  obtain ⟨t299, A410, H⟩ := H
  replace H : ((withylaw12_Ref.f t279 t280 t281).bind fun bt300 => ((withyref12_May.f bt300.1 bt300.2.1 bt300.2.2 a1).bind fun t303 => (if (t299 != t303) = true then (withylaw12_ChainTells.j0 k a1 js12 true a2_0 a2_1 a2_2) else (if t282.toList = t287.toList then (if t283 = t288 then ((withylaw12_Ref.f t289 t290 t291).bind fun bt304 => (if (!(bt304.1 == t294) || (!(bt304.2.1 == t295) || (!(bt304.2.2.toList == t296.toList)))) = true then (withylaw12_ChainTells.j0 k a1 js12 true a2_0 a2_1 a2_2) else (withylaw12_ChainTells.j0 k a1 js12 (t292 != t297) a2_0 a2_1 a2_2))) else (withylaw12_ChainTells.j0 k a1 js12 true a2_0 a2_1 a2_2)) else (withylaw12_ChainTells.j0 k a1 js12 true a2_0 a2_1 a2_2))))) = some r := H
  have A41 := Aside0.mk A410
  clear A410
  replace H := bM H
  obtain ⟨⟨t300, t301, t302⟩, A420, H⟩ := H
  replace H : ((withyref12_May.f t300 t301 t302 a1).bind fun t303 => (if (t299 != t303) = true then (withylaw12_ChainTells.j0 k a1 js12 true a2_0 a2_1 a2_2) else (if t282.toList = t287.toList then (if t283 = t288 then ((withylaw12_Ref.f t289 t290 t291).bind fun bt304 => (if (!(bt304.1 == t294) || (!(bt304.2.1 == t295) || (!(bt304.2.2.toList == t296.toList)))) = true then (withylaw12_ChainTells.j0 k a1 js12 true a2_0 a2_1 a2_2) else (withylaw12_ChainTells.j0 k a1 js12 (t292 != t297) a2_0 a2_1 a2_2))) else (withylaw12_ChainTells.j0 k a1 js12 true a2_0 a2_1 a2_2)) else (withylaw12_ChainTells.j0 k a1 js12 true a2_0 a2_1 a2_2)))) = some r := H
  have A42 := Aside0.mk A420
  clear A420
  replace H := bM H
  obtain ⟨t303, A430, H⟩ := H
  replace H : (if (t299 != t303) = true then (withylaw12_ChainTells.j0 k a1 js12 true a2_0 a2_1 a2_2) else (if t282.toList = t287.toList then (if t283 = t288 then ((withylaw12_Ref.f t289 t290 t291).bind fun bt304 => (if (!(bt304.1 == t294) || (!(bt304.2.1 == t295) || (!(bt304.2.2.toList == t296.toList)))) = true then (withylaw12_ChainTells.j0 k a1 js12 true a2_0 a2_1 a2_2) else (withylaw12_ChainTells.j0 k a1 js12 (t292 != t297) a2_0 a2_1 a2_2))) else (withylaw12_ChainTells.j0 k a1 js12 true a2_0 a2_1 a2_2)) else (withylaw12_ChainTells.j0 k a1 js12 true a2_0 a2_1 a2_2))) = some r := H
  have A43 := Aside0.mk A430
  clear A430
  by_cases c44 : (t299 != t303) = true
  ·rw [if_pos c44] at H
   have c44b0 : (t299 != t303) = true := c44
   (try (have c44b1 : t299 = !t303 := by simpa using c44))
   (try (have c44b2 : decide (t299 = t303) = false := by simpa using c44))
   (try (have c44b3 : (t299 == t303) = false := by simpa using c44))
   (try (have c44b4 : ¬ (t299 = t303) := by simpa using c44))
   clear c44
   (first | rw [c44b0] | (simp only [i64_w, i32_w]; rw [c44b0]) | rw [c44b1] | skip)
   have H' := Aside0.mk H
   clear H
   try go_wp2
   have n0_ : Aside0 ((((w36.setCell ⟨gb298, 0, none⟩ (.int .i64 t294)).setCell ⟨gb298, 1, none⟩ (.int .i64 t295)).setCell ⟨gb298, 2, none⟩ (.string t296)).heap[gb277]? = some (.cells #[.int .i64 t279, .int .i64 t280, .string t281] 23 (0, 0))) := ⟨by refine bx ?_; refine blk_far ?_ NB277_298.out _; refine bx ?_; refine blk_far ?_ NB277_298.out _; refine bx ?_; refine blk_far ?_ NB277_298.out _; refine bx ?_; exact BK277.out⟩
   have n1_ : Aside0 ((((w36.setCell ⟨gb298, 0, none⟩ (.int .i64 t294)).setCell ⟨gb298, 1, none⟩ (.int .i64 t295)).setCell ⟨gb298, 2, none⟩ (.string t296)).heap[gb278]? = some (.cells #[.string a2_0, .string a2_1, .int .i64 a2_2] 25 (0, 0))) := ⟨by refine bx ?_; refine blk_far ?_ NB278_298.out _; refine bx ?_; refine blk_far ?_ NB278_298.out _; refine bx ?_; refine blk_far ?_ NB278_298.out _; refine bx ?_; exact BK278.out⟩
   have n2_ : Aside0 ((((w36.setCell ⟨gb298, 0, none⟩ (.int .i64 t294)).setCell ⟨gb298, 1, none⟩ (.int .i64 t295)).setCell ⟨gb298, 2, none⟩ (.string t296)).heap[gb293]? = some (.cells #[.int .i64 t289, .int .i64 t290, .string t291] 23 (0, 0))) := ⟨by refine bx ?_; refine blk_far ?_ NB293_298.out _; refine bx ?_; refine blk_far ?_ NB293_298.out _; refine bx ?_; refine blk_far ?_ NB293_298.out _; refine bx ?_; exact BK293.out⟩
   have n3_ : Aside0 ((((w36.setCell ⟨gb298, 0, none⟩ (.int .i64 t294)).setCell ⟨gb298, 1, none⟩ (.int .i64 t295)).setCell ⟨gb298, 2, none⟩ (.string t296)).heap[gb298]? = some (.cells #[.int .i64 t294, .int .i64 t295, .string t296] 31 (0, 0))) := ⟨by refine bx ?_; refine blk_put (cs := #[.int .i64 t294, .int .i64 t295, .string (⟨#[]⟩ : ByteArray)]) ?_ 2 _ rfl; refine bx ?_; refine blk_put (cs := #[.int .i64 t294, .int .i64 0, .string (⟨#[]⟩ : ByteArray)]) ?_ 1 _ rfl; refine bx ?_; refine blk_put (cs := #[.int .i64 0, .int .i64 0, .string (⟨#[]⟩ : ByteArray)]) ?_ 0 _ rfl; refine bx ?_; exact BK298.out⟩
   have n4_ : Aside0 (Below w.heap.size w (((w36.setCell ⟨gb298, 0, none⟩ (.int .i64 t294)).setCell ⟨gb298, 1, none⟩ (.int .i64 t295)).setCell ⟨gb298, 2, none⟩ (.string t296))) := ⟨by repeat (first | (with_reducible first | exact HB.out | apply below_alloc | apply pw_below_drewN | apply below_drew1 | refine below_set ?_ GE277.out | refine below_set ?_ GE278.out | refine below_set ?_ GE293.out | refine below_set ?_ GE298.out) | exact HB.out)⟩
   (try clear BK277)
   (try clear BK278)
   (try clear BK293)
   (try clear BK298)
   (try clear HB)
   generalize (((w36.setCell ⟨gb298, 0, none⟩ (.int .i64 t294)).setCell ⟨gb298, 1, none⟩ (.int .i64 t295)).setCell ⟨gb298, 2, none⟩ (.string t296)) = w45 at n0_ n1_ n2_ n3_ n4_ ⊢
   have BK277 := n0_
   have BK278 := n1_
   have BK293 := n2_
   have BK298 := n3_
   have HB := n4_
   clear n0_ n1_ n2_ n3_ n4_
   replace BK277 := as_ (blk_drew BK277.out)
   replace BK278 := as_ (blk_drew BK278.out)
   replace BK293 := as_ (blk_drew BK293.out)
   replace BK298 := as_ (blk_drew BK298.out)
   replace HB := as_ (below_drew1 HB.out)
   refine start_ (n := 29) (S := fun w' => w'.cell? ⟨gb277, 0, none⟩ = some (.int .i64 t279) ∧ w'.cell? ⟨gb277, 1, none⟩ = some (.int .i64 t280) ∧ w'.cell? ⟨gb277, 2, none⟩ = some (.string t281)) (ds := []) #[ff, ff, ff, ff, ff, ff, ff, ff, ff, ff, ff, ff, ff, ff, ff, ff, ff, ff, ff, ff, ff, ff, ff, ff, ff, ff, ff, ff, ff] (by kernel_rfl) rfl rfl ⟨(blk_cell BK277.out 0).trans rfl, (blk_cell BK277.out 1).trans rfl, (blk_cell BK277.out 2).trans rfl⟩ (fun hHeld => ?_); refine with_tabW withylaw12_ChainTells.tab8 withylaw12_ChainTells.bits8 (fun HT_ HW_ => ?_)
   generalize w45.drew = w46 at BK277 BK278 BK293 BK298 HB hHeld ⊢
   refine pure_ (i := 1) (N := some 57) (v := ?_) (a' := ?_) #[ff, tt, ff, ff, ff, ff, ff, ff, ff, ff, ff, ff, ff, ff, ff, ff, ff, ff, ff, ff, ff, ff, ff, ff, ff, ff, ff, ff, ff] rfl rfl (any_of HT_.out (by kernel_rfl)) (fun _ _ _ h => h) (Or.inl ⟨by rfl, ?_⟩) ?_ ?_
   rotate_left
   ·intro w'
    go_simp
    with_reducible rfl
   rotate_left
   ·exact aP
   refine pure_ (i := 5) (N := some 61) (v := ?_) (a' := ?_) #[ff, tt, ff, ff, ff, tt, ff, ff, ff, ff, ff, ff, ff, ff, ff, ff, ff, ff, ff, ff, ff, ff, ff, ff, ff, ff, ff, ff, ff] rfl rfl (any_of HT_.out (by kernel_rfl)) (fun _ _ _ h => h) (Or.inl ⟨by rfl, ?_⟩) ?_ ?_
   rotate_left
   ·intro w'
    go_simp
    with_reducible rfl
   rotate_left
   ·exact aP
   refine take_ (i := 0) (N := some 56) (v := ?_) (a' := ?_) #[tt, tt, ff, ff, ff, tt, ff, ff, ff, ff, ff, ff, ff, ff, ff, ff, ff, ff, ff, ff, ff, ff, ff, ff, ff, ff, ff, ff, ff] rfl rfl (take_ofW HT_.out HW_.out (by kernel_rfl)) (fun _ _ _ h => h) (Or.inl ⟨by rfl, ?_⟩) hHeld ?_ ?_
   rotate_left
   ·rintro w' ⟨s0, s1, s2⟩
    go_simp
    with_reducible rfl
   rotate_left
   ·exact aP
   refine take_ (i := 3) (N := some 59) (v := ?_) (a' := ?_) #[tt, tt, ff, tt, ff, tt, ff, ff, ff, ff, ff, ff, ff, ff, ff, ff, ff, ff, ff, ff, ff, ff, ff, ff, ff, ff, ff, ff, ff] rfl rfl (take_ofW HT_.out HW_.out (by kernel_rfl)) (fun _ _ _ h => h) (Or.inl ⟨by rfl, ?_⟩) hHeld ?_ ?_
   rotate_left
   ·rintro w' ⟨s0, s1, s2⟩
    go_simp
    with_reducible rfl
   rotate_left
   ·exact aP
   refine one_ (i := 2) (N := some 58) #[tt, tt, tt, tt, ff, tt, ff, ff, ff, ff, ff, ff, ff, ff, ff, ff, ff, ff, ff, ff, ff, ff, ff, ff, ff, ff, ff, ff, ff] rfl rfl (one_of HT_.out (by kernel_rfl)) (by decide) (fun K hK => ?_)
   refine goes_ Tryz.func10 (by kernel_rfl) rfl #[.agg #[.int .i64 t279, .int .i64 t280, .string t281], .int .i64 a1] (by rfl) rfl rfl aO ?_
   with_reducible refine (chain_May.calls t279 t280 t281 a1 t299 _ A41.out).mono ?_
   rintro e w47 ⟨rfl, hb⟩
   refine ⟨_, rfl, ?_⟩
   replace BK277 := bb BK277 hb
   replace BK278 := bb BK278 hb
   replace BK293 := bb BK293 hb
   replace BK298 := bb BK298 hb
   replace HB := as_ (below_step bA hb)
   (try clear hb)
   (try clear hb2)
   (try clear hk)
   (try clear hi)
   refine hK.out _ _ ⟨(blk_cell BK277.out 0).trans rfl, (blk_cell BK277.out 1).trans rfl, (blk_cell BK277.out 2).trans rfl⟩ (fun hHeld => ?_)
   clear hK K
   refine norm_ (a' := ?_) ?_ ?_
   rotate_left
   ·show Act.put _ (some 58) _ = _
    simp only [Act.put, List.setIfInBounds_toArray, List.set_cons_zero, List.set_cons_succ, i64_w, i32_w]
    rfl
   refine one_ (i := 4) (N := some 60) #[tt, tt, tt, tt, tt, tt, ff, ff, ff, ff, ff, ff, ff, ff, ff, ff, ff, ff, ff, ff, ff, ff, ff, ff, ff, ff, ff, ff, ff] rfl rfl (one_of HT_.out (by kernel_rfl)) (by decide) (fun K hK => ?_)
   refine goes_ Tryz.func7 (by kernel_rfl) rfl #[.agg #[.int .i64 t279, .int .i64 t280, .string t281]] (by rfl) rfl rfl aO ?_
   with_reducible refine (withylaw12_Ref.calls t279 t280 t281 t300 t301 t302 _ A42.out).mono ?_
   rintro e w48 ⟨rfl, hb⟩
   refine ⟨_, rfl, ?_⟩
   replace BK277 := bb BK277 hb
   replace BK278 := bb BK278 hb
   replace BK293 := bb BK293 hb
   replace BK298 := bb BK298 hb
   replace HB := as_ (below_step bA hb)
   (try clear hb)
   (try clear hb2)
   (try clear hk)
   (try clear hi)
   refine hK.out _ _ ⟨(blk_cell BK277.out 0).trans rfl, (blk_cell BK277.out 1).trans rfl, (blk_cell BK277.out 2).trans rfl⟩ (fun hHeld => ?_)
   clear hK K
   refine norm_ (a' := ?_) ?_ ?_
   rotate_left
   ·show Act.put _ (some 60) _ = _
    simp only [Act.put, List.setIfInBounds_toArray, List.set_cons_zero, List.set_cons_succ, i64_w, i32_w]
    rfl
   refine one_ (i := 6) (N := some 62) #[tt, tt, tt, tt, tt, tt, tt, ff, ff, ff, ff, ff, ff, ff, ff, ff, ff, ff, ff, ff, ff, ff, ff, ff, ff, ff, ff, ff, ff] rfl rfl (one_of HT_.out (by kernel_rfl)) (by decide) (fun K hK => ?_)
   refine goes_ Tryz.func11 (by kernel_rfl) rfl #[.agg #[.int .i64 t300, .int .i64 t301, .string t302], .int .i64 a1] (by rfl) rfl rfl aO ?_
   with_reducible refine (withyref12_May.calls t300 t301 t302 a1 t303 _ A43.out).mono ?_
   rintro e w49 ⟨rfl, hb⟩
   refine ⟨_, rfl, ?_⟩
   replace BK277 := bb BK277 hb
   replace BK278 := bb BK278 hb
   replace BK293 := bb BK293 hb
   replace BK298 := bb BK298 hb
   replace HB := as_ (below_step bA hb)
   (try clear hb)
   (try clear hb2)
   (try clear hk)
   (try clear hi)
   refine hK.out _ _ ⟨(blk_cell BK277.out 0).trans rfl, (blk_cell BK277.out 1).trans rfl, (blk_cell BK277.out 2).trans rfl⟩ (fun hHeld => ?_)
   clear hK K
   refine norm_ (a' := ?_) ?_ ?_
   rotate_left
   ·show Act.put _ (some 62) _ = _
    simp only [Act.put, List.setIfInBounds_toArray, List.set_cons_zero, List.set_cons_succ, i64_w, i32_w]
    rfl
   refine pure_ (i := 7) (N := some 63) (v := ?_) (a' := ?_) #[tt, tt, tt, tt, tt, tt, tt, tt, ff, ff, ff, ff, ff, ff, ff, ff, ff, ff, ff, ff, ff, ff, ff, ff, ff, ff, ff, ff, ff] rfl rfl (any_of HT_.out (by kernel_rfl)) (fun _ _ _ h => h) (Or.inl ⟨by rfl, ?_⟩) ?_ ?_
   rotate_left
   ·intro w'
    go_simp
    with_reducible rfl
   rotate_left
   ·exact aP
   refine pure_ (i := 8) (N := some 64) (v := ?_) (a' := ?_) #[tt, tt, tt, tt, tt, tt, tt, tt, tt, ff, ff, ff, ff, ff, ff, ff, ff, ff, ff, ff, ff, ff, ff, ff, ff, ff, ff, ff, ff] rfl rfl (any_of HT_.out (by kernel_rfl)) (fun _ _ _ h => h) (Or.inl ⟨by rfl, ?_⟩) ?_ ?_
   rotate_left
   ·intro w'
    go_simp
    with_reducible rfl
   rotate_left
   ·exact aP
   refine pure_ (i := 9) (N := some 65) (v := undef) (a' := ?_) #[tt, tt, tt, tt, tt, tt, tt, tt, tt, tt, ff, ff, ff, ff, ff, ff, ff, ff, ff, ff, ff, ff, ff, ff, ff, ff, ff, ff, ff] rfl rfl (any_of HT_.out (by kernel_rfl)) (fun _ _ _ h => h) (Or.inr ⟨by rfl, rfl⟩) ?_ ?_
   rotate_left
   ·exact aP
   refine pure_ (i := 10) (N := some 66) (v := undef) (a' := ?_) #[tt, tt, tt, tt, tt, tt, tt, tt, tt, tt, tt, ff, ff, ff, ff, ff, ff, ff, ff, ff, ff, ff, ff, ff, ff, ff, ff, ff, ff] rfl rfl (any_of HT_.out (by kernel_rfl)) (fun _ _ _ h => h) (Or.inr ⟨by rfl, rfl⟩) ?_ ?_
   rotate_left
   ·exact aP
   refine pure_ (i := 11) (N := some 67) (v := undef) (a' := ?_) #[tt, tt, tt, tt, tt, tt, tt, tt, tt, tt, tt, tt, ff, ff, ff, ff, ff, ff, ff, ff, ff, ff, ff, ff, ff, ff, ff, ff, ff] rfl rfl (any_of HT_.out (by kernel_rfl)) (fun _ _ _ h => h) (Or.inr ⟨by rfl, rfl⟩) ?_ ?_
   rotate_left
   ·exact aP
   refine pure_ (i := 12) (N := some 68) (v := ?_) (a' := ?_) #[tt, tt, tt, tt, tt, tt, tt, tt, tt, tt, tt, tt, tt, ff, ff, ff, ff, ff, ff, ff, ff, ff, ff, ff, ff, ff, ff, ff, ff] rfl rfl (any_of HT_.out (by kernel_rfl)) (fun _ _ _ h => h) (Or.inl ⟨by rfl, ?_⟩) ?_ ?_
   rotate_left
   ·intro w'
    go_simp
    with_reducible rfl
   rotate_left
   ·exact aP
   refine pure_ (i := 13) (N := some 69) (v := ?_) (a' := ?_) #[tt, tt, tt, tt, tt, tt, tt, tt, tt, tt, tt, tt, tt, tt, ff, ff, ff, ff, ff, ff, ff, ff, ff, ff, ff, ff, ff, ff, ff] rfl rfl (any_of HT_.out (by kernel_rfl)) (fun _ _ _ h => h) (Or.inl ⟨by rfl, ?_⟩) ?_ ?_
   rotate_left
   ·intro w'
    go_simp
    with_reducible rfl
   rotate_left
   ·exact aP
   refine pure_ (i := 14) (N := some 70) (v := undef) (a' := ?_) #[tt, tt, tt, tt, tt, tt, tt, tt, tt, tt, tt, tt, tt, tt, tt, ff, ff, ff, ff, ff, ff, ff, ff, ff, ff, ff, ff, ff, ff] rfl rfl (any_of HT_.out (by kernel_rfl)) (fun _ _ _ h => h) (Or.inr ⟨by rfl, rfl⟩) ?_ ?_
   rotate_left
   ·exact aP
   refine pure_ (i := 15) (N := some 71) (v := undef) (a' := ?_) #[tt, tt, tt, tt, tt, tt, tt, tt, tt, tt, tt, tt, tt, tt, tt, tt, ff, ff, ff, ff, ff, ff, ff, ff, ff, ff, ff, ff, ff] rfl rfl (any_of HT_.out (by kernel_rfl)) (fun _ _ _ h => h) (Or.inr ⟨by rfl, rfl⟩) ?_ ?_
   rotate_left
   ·exact aP
   refine pure_ (i := 16) (N := some 72) (v := undef) (a' := ?_) #[tt, tt, tt, tt, tt, tt, tt, tt, tt, tt, tt, tt, tt, tt, tt, tt, tt, ff, ff, ff, ff, ff, ff, ff, ff, ff, ff, ff, ff] rfl rfl (any_of HT_.out (by kernel_rfl)) (fun _ _ _ h => h) (Or.inr ⟨by rfl, rfl⟩) ?_ ?_
   rotate_left
   ·exact aP
   refine pure_ (i := 17) (N := some 73) (v := ?_) (a' := ?_) #[tt, tt, tt, tt, tt, tt, tt, tt, tt, tt, tt, tt, tt, tt, tt, tt, tt, tt, ff, ff, ff, ff, ff, ff, ff, ff, ff, ff, ff] rfl rfl (any_of HT_.out (by kernel_rfl)) (fun _ _ _ h => h) (Or.inl ⟨by rfl, ?_⟩) ?_ ?_
   rotate_left
   ·intro w'
    go_simp
    with_reducible rfl
   rotate_left
   ·exact aP
   refine pure_ (i := 18) (N := some 74) (v := ?_) (a' := ?_) #[tt, tt, tt, tt, tt, tt, tt, tt, tt, tt, tt, tt, tt, tt, tt, tt, tt, tt, tt, ff, ff, ff, ff, ff, ff, ff, ff, ff, ff] rfl rfl (any_of HT_.out (by kernel_rfl)) (fun _ _ _ h => h) (Or.inl ⟨by rfl, ?_⟩) ?_ ?_
   rotate_left
   ·intro w'
    go_simp
    with_reducible rfl
   rotate_left
   ·exact aP
   refine pure_ (i := 19) (N := some 75) (v := undef) (a' := ?_) #[tt, tt, tt, tt, tt, tt, tt, tt, tt, tt, tt, tt, tt, tt, tt, tt, tt, tt, tt, tt, ff, ff, ff, ff, ff, ff, ff, ff, ff] rfl rfl (any_of HT_.out (by kernel_rfl)) (fun _ _ _ h => h) (Or.inr ⟨by rfl, rfl⟩) ?_ ?_
   rotate_left
   ·exact aP
   refine pure_ (i := 20) (N := some 76) (v := undef) (a' := ?_) #[tt, tt, tt, tt, tt, tt, tt, tt, tt, tt, tt, tt, tt, tt, tt, tt, tt, tt, tt, tt, tt, ff, ff, ff, ff, ff, ff, ff, ff] rfl rfl (any_of HT_.out (by kernel_rfl)) (fun _ _ _ h => h) (Or.inr ⟨by rfl, rfl⟩) ?_ ?_
   rotate_left
   ·exact aP
   refine pure_ (i := 21) (N := some 77) (v := undef) (a' := ?_) #[tt, tt, tt, tt, tt, tt, tt, tt, tt, tt, tt, tt, tt, tt, tt, tt, tt, tt, tt, tt, tt, tt, ff, ff, ff, ff, ff, ff, ff] rfl rfl (any_of HT_.out (by kernel_rfl)) (fun _ _ _ h => h) (Or.inr ⟨by rfl, rfl⟩) ?_ ?_
   rotate_left
   ·exact aP
   refine pure_ (i := 22) (N := some 78) (v := undef) (a' := ?_) #[tt, tt, tt, tt, tt, tt, tt, tt, tt, tt, tt, tt, tt, tt, tt, tt, tt, tt, tt, tt, tt, tt, tt, ff, ff, ff, ff, ff, ff] rfl rfl (any_of HT_.out (by kernel_rfl)) (fun _ _ _ h => h) (Or.inr ⟨by rfl, rfl⟩) ?_ ?_
   rotate_left
   ·exact aP
   refine pure_ (i := 23) (N := some 79) (v := ?_) (a' := ?_) #[tt, tt, tt, tt, tt, tt, tt, tt, tt, tt, tt, tt, tt, tt, tt, tt, tt, tt, tt, tt, tt, tt, tt, tt, ff, ff, ff, ff, ff] rfl rfl (any_of HT_.out (by kernel_rfl)) (fun _ _ _ h => h) (Or.inl ⟨by rfl, ?_⟩) ?_ ?_
   rotate_left
   ·intro w'
    go_simp
    with_reducible rfl
   rotate_left
   ·exact aP
   refine pure_ (i := 24) (N := some 80) (v := ?_) (a' := ?_) #[tt, tt, tt, tt, tt, tt, tt, tt, tt, tt, tt, tt, tt, tt, tt, tt, tt, tt, tt, tt, tt, tt, tt, tt, tt, ff, ff, ff, ff] rfl rfl (any_of HT_.out (by kernel_rfl)) (fun _ _ _ h => h) (Or.inl ⟨by rfl, ?_⟩) ?_ ?_
   rotate_left
   ·intro w'
    go_simp
    with_reducible rfl
   rotate_left
   ·exact aP
   refine pure_ (i := 25) (N := some 81) (v := undef) (a' := ?_) #[tt, tt, tt, tt, tt, tt, tt, tt, tt, tt, tt, tt, tt, tt, tt, tt, tt, tt, tt, tt, tt, tt, tt, tt, tt, tt, ff, ff, ff] rfl rfl (any_of HT_.out (by kernel_rfl)) (fun _ _ _ h => h) (Or.inr ⟨by rfl, rfl⟩) ?_ ?_
   rotate_left
   ·exact aP
   refine pure_ (i := 26) (N := some 82) (v := undef) (a' := ?_) #[tt, tt, tt, tt, tt, tt, tt, tt, tt, tt, tt, tt, tt, tt, tt, tt, tt, tt, tt, tt, tt, tt, tt, tt, tt, tt, tt, ff, ff] rfl rfl (any_of HT_.out (by kernel_rfl)) (fun _ _ _ h => h) (Or.inr ⟨by rfl, rfl⟩) ?_ ?_
   rotate_left
   ·exact aP
   refine pure_ (i := 27) (N := some 83) (v := undef) (a' := ?_) #[tt, tt, tt, tt, tt, tt, tt, tt, tt, tt, tt, tt, tt, tt, tt, tt, tt, tt, tt, tt, tt, tt, tt, tt, tt, tt, tt, tt, ff] rfl rfl (any_of HT_.out (by kernel_rfl)) (fun _ _ _ h => h) (Or.inr ⟨by rfl, rfl⟩) ?_ ?_
   rotate_left
   ·exact aP
   refine pure_ (i := 28) (N := some 84) (v := ?_) (a' := ?_) #[tt, tt, tt, tt, tt, tt, tt, tt, tt, tt, tt, tt, tt, tt, tt, tt, tt, tt, tt, tt, tt, tt, tt, tt, tt, tt, tt, tt, tt] rfl rfl (any_of HT_.out (by kernel_rfl)) (fun _ _ _ h => h) (Or.inl ⟨by rfl, ?_⟩) ?_ ?_
   rotate_left
   ·intro w'
    go_simp
    with_reducible rfl
   rotate_left
   ·exact aP
   refine done_ (done_of HT_.out (by kernel_rfl)) ?_
   try go_wp2
   go_meet
   case rel => exact ⟨_, (true), (by first | rfl | (simp; done) | (simp [*]; done)), H', ⟨by first | omega | exact Nat.le_refl _⟩, ⟨by refine bx ?_; exact BK277.out⟩, ⟨by refine bx ?_; exact BK278.out⟩, ⟨by refine bx ?_; exact BK293.out⟩, ⟨by refine bx ?_; exact BK298.out⟩, ⟨by repeat (first | (with_reducible first | exact HB.out | apply below_alloc | apply pw_below_drewN | apply below_drew1 | refine below_set ?_ GE277.out | refine below_set ?_ GE278.out | refine below_set ?_ GE293.out | refine below_set ?_ GE298.out) | exact HB.out)⟩⟩
  rw [if_neg c44] at H
  have c44b0 : (t299 != t303) = false := by simpa using c44
  (try (have c44b1 : t299 = t303 := by simpa using c44))
  (try (have c44b2 : decide (t299 = t303) = true := by simpa using c44))
  (try (have c44b3 : (t299 == t303) = true := by simpa using c44))
  clear c44
  (first | rw [c44b0] | (simp only [i64_w, i32_w]; rw [c44b0]) | rw [c44b1] | skip)
  by_cases c50 : t282.toList = t287.toList
  rotate_left
  ·rw [if_neg c50] at H
   have c50b0 : (t282.toList == t287.toList) = false := beq_eq_false_iff_ne.mpr c50
   have c50b1 : (t282.toList != t287.toList) = true := bne_iff_ne.mpr c50
   have H' := Aside0.mk H
   clear H
   try go_wp2
   have n0_ : Aside0 ((((w36.setCell ⟨gb298, 0, none⟩ (.int .i64 t294)).setCell ⟨gb298, 1, none⟩ (.int .i64 t295)).setCell ⟨gb298, 2, none⟩ (.string t296)).heap[gb277]? = some (.cells #[.int .i64 t279, .int .i64 t280, .string t281] 23 (0, 0))) := ⟨by refine bx ?_; refine blk_far ?_ NB277_298.out _; refine bx ?_; refine blk_far ?_ NB277_298.out _; refine bx ?_; refine blk_far ?_ NB277_298.out _; refine bx ?_; exact BK277.out⟩
   have n1_ : Aside0 ((((w36.setCell ⟨gb298, 0, none⟩ (.int .i64 t294)).setCell ⟨gb298, 1, none⟩ (.int .i64 t295)).setCell ⟨gb298, 2, none⟩ (.string t296)).heap[gb278]? = some (.cells #[.string a2_0, .string a2_1, .int .i64 a2_2] 25 (0, 0))) := ⟨by refine bx ?_; refine blk_far ?_ NB278_298.out _; refine bx ?_; refine blk_far ?_ NB278_298.out _; refine bx ?_; refine blk_far ?_ NB278_298.out _; refine bx ?_; exact BK278.out⟩
   have n2_ : Aside0 ((((w36.setCell ⟨gb298, 0, none⟩ (.int .i64 t294)).setCell ⟨gb298, 1, none⟩ (.int .i64 t295)).setCell ⟨gb298, 2, none⟩ (.string t296)).heap[gb293]? = some (.cells #[.int .i64 t289, .int .i64 t290, .string t291] 23 (0, 0))) := ⟨by refine bx ?_; refine blk_far ?_ NB293_298.out _; refine bx ?_; refine blk_far ?_ NB293_298.out _; refine bx ?_; refine blk_far ?_ NB293_298.out _; refine bx ?_; exact BK293.out⟩
   have n3_ : Aside0 ((((w36.setCell ⟨gb298, 0, none⟩ (.int .i64 t294)).setCell ⟨gb298, 1, none⟩ (.int .i64 t295)).setCell ⟨gb298, 2, none⟩ (.string t296)).heap[gb298]? = some (.cells #[.int .i64 t294, .int .i64 t295, .string t296] 31 (0, 0))) := ⟨by refine bx ?_; refine blk_put (cs := #[.int .i64 t294, .int .i64 t295, .string (⟨#[]⟩ : ByteArray)]) ?_ 2 _ rfl; refine bx ?_; refine blk_put (cs := #[.int .i64 t294, .int .i64 0, .string (⟨#[]⟩ : ByteArray)]) ?_ 1 _ rfl; refine bx ?_; refine blk_put (cs := #[.int .i64 0, .int .i64 0, .string (⟨#[]⟩ : ByteArray)]) ?_ 0 _ rfl; refine bx ?_; exact BK298.out⟩
   have n4_ : Aside0 (Below w.heap.size w (((w36.setCell ⟨gb298, 0, none⟩ (.int .i64 t294)).setCell ⟨gb298, 1, none⟩ (.int .i64 t295)).setCell ⟨gb298, 2, none⟩ (.string t296))) := ⟨by repeat (first | (with_reducible first | exact HB.out | apply below_alloc | apply pw_below_drewN | apply below_drew1 | refine below_set ?_ GE277.out | refine below_set ?_ GE278.out | refine below_set ?_ GE293.out | refine below_set ?_ GE298.out) | exact HB.out)⟩
   (try clear BK277)
   (try clear BK278)
   (try clear BK293)
   (try clear BK298)
   (try clear HB)
   generalize (((w36.setCell ⟨gb298, 0, none⟩ (.int .i64 t294)).setCell ⟨gb298, 1, none⟩ (.int .i64 t295)).setCell ⟨gb298, 2, none⟩ (.string t296)) = w71 at n0_ n1_ n2_ n3_ n4_ ⊢
   have BK277 := n0_
   have BK278 := n1_
   have BK293 := n2_
   have BK298 := n3_
   have HB := n4_
   clear n0_ n1_ n2_ n3_ n4_
   replace BK277 := as_ (blk_drew BK277.out)
   replace BK278 := as_ (blk_drew BK278.out)
   replace BK293 := as_ (blk_drew BK293.out)
   replace BK298 := as_ (blk_drew BK298.out)
   replace HB := as_ (below_drew1 HB.out)
   refine start_ (n := 29) (S := fun w' => w'.cell? ⟨gb277, 0, none⟩ = some (.int .i64 t279) ∧ w'.cell? ⟨gb277, 1, none⟩ = some (.int .i64 t280) ∧ w'.cell? ⟨gb277, 2, none⟩ = some (.string t281)) (ds := []) #[ff, ff, ff, ff, ff, ff, ff, ff, ff, ff, ff, ff, ff, ff, ff, ff, ff, ff, ff, ff, ff, ff, ff, ff, ff, ff, ff, ff, ff] (by kernel_rfl) rfl rfl ⟨(blk_cell BK277.out 0).trans rfl, (blk_cell BK277.out 1).trans rfl, (blk_cell BK277.out 2).trans rfl⟩ (fun hHeld => ?_); refine with_tabW withylaw12_ChainTells.tab8 withylaw12_ChainTells.bits8 (fun HT_ HW_ => ?_)
   generalize w71.drew = w72 at BK277 BK278 BK293 BK298 HB hHeld ⊢
   refine pure_ (i := 1) (N := some 57) (v := ?_) (a' := ?_) #[ff, tt, ff, ff, ff, ff, ff, ff, ff, ff, ff, ff, ff, ff, ff, ff, ff, ff, ff, ff, ff, ff, ff, ff, ff, ff, ff, ff, ff] rfl rfl (any_of HT_.out (by kernel_rfl)) (fun _ _ _ h => h) (Or.inl ⟨by rfl, ?_⟩) ?_ ?_
   rotate_left
   ·intro w'
    go_simp
    with_reducible rfl
   rotate_left
   ·exact aP
   refine pure_ (i := 5) (N := some 61) (v := ?_) (a' := ?_) #[ff, tt, ff, ff, ff, tt, ff, ff, ff, ff, ff, ff, ff, ff, ff, ff, ff, ff, ff, ff, ff, ff, ff, ff, ff, ff, ff, ff, ff] rfl rfl (any_of HT_.out (by kernel_rfl)) (fun _ _ _ h => h) (Or.inl ⟨by rfl, ?_⟩) ?_ ?_
   rotate_left
   ·intro w'
    go_simp
    with_reducible rfl
   rotate_left
   ·exact aP
   refine take_ (i := 0) (N := some 56) (v := ?_) (a' := ?_) #[tt, tt, ff, ff, ff, tt, ff, ff, ff, ff, ff, ff, ff, ff, ff, ff, ff, ff, ff, ff, ff, ff, ff, ff, ff, ff, ff, ff, ff] rfl rfl (take_ofW HT_.out HW_.out (by kernel_rfl)) (fun _ _ _ h => h) (Or.inl ⟨by rfl, ?_⟩) hHeld ?_ ?_
   rotate_left
   ·rintro w' ⟨s0, s1, s2⟩
    go_simp
    with_reducible rfl
   rotate_left
   ·exact aP
   refine take_ (i := 3) (N := some 59) (v := ?_) (a' := ?_) #[tt, tt, ff, tt, ff, tt, ff, ff, ff, ff, ff, ff, ff, ff, ff, ff, ff, ff, ff, ff, ff, ff, ff, ff, ff, ff, ff, ff, ff] rfl rfl (take_ofW HT_.out HW_.out (by kernel_rfl)) (fun _ _ _ h => h) (Or.inl ⟨by rfl, ?_⟩) hHeld ?_ ?_
   rotate_left
   ·rintro w' ⟨s0, s1, s2⟩
    go_simp
    with_reducible rfl
   rotate_left
   ·exact aP
   refine one_ (i := 2) (N := some 58) #[tt, tt, tt, tt, ff, tt, ff, ff, ff, ff, ff, ff, ff, ff, ff, ff, ff, ff, ff, ff, ff, ff, ff, ff, ff, ff, ff, ff, ff] rfl rfl (one_of HT_.out (by kernel_rfl)) (by decide) (fun K hK => ?_)
   refine goes_ Tryz.func10 (by kernel_rfl) rfl #[.agg #[.int .i64 t279, .int .i64 t280, .string t281], .int .i64 a1] (by rfl) rfl rfl aO ?_
   with_reducible refine (chain_May.calls t279 t280 t281 a1 t299 _ A41.out).mono ?_
   rintro e w73 ⟨rfl, hb⟩
   refine ⟨_, rfl, ?_⟩
   replace BK277 := bb BK277 hb
   replace BK278 := bb BK278 hb
   replace BK293 := bb BK293 hb
   replace BK298 := bb BK298 hb
   replace HB := as_ (below_step bA hb)
   (try clear hb)
   (try clear hb2)
   (try clear hk)
   (try clear hi)
   refine hK.out _ _ ⟨(blk_cell BK277.out 0).trans rfl, (blk_cell BK277.out 1).trans rfl, (blk_cell BK277.out 2).trans rfl⟩ (fun hHeld => ?_)
   clear hK K
   refine norm_ (a' := ?_) ?_ ?_
   rotate_left
   ·show Act.put _ (some 58) _ = _
    simp only [Act.put, List.setIfInBounds_toArray, List.set_cons_zero, List.set_cons_succ, i64_w, i32_w]
    rfl
   refine one_ (i := 4) (N := some 60) #[tt, tt, tt, tt, tt, tt, ff, ff, ff, ff, ff, ff, ff, ff, ff, ff, ff, ff, ff, ff, ff, ff, ff, ff, ff, ff, ff, ff, ff] rfl rfl (one_of HT_.out (by kernel_rfl)) (by decide) (fun K hK => ?_)
   refine goes_ Tryz.func7 (by kernel_rfl) rfl #[.agg #[.int .i64 t279, .int .i64 t280, .string t281]] (by rfl) rfl rfl aO ?_
   with_reducible refine (withylaw12_Ref.calls t279 t280 t281 t300 t301 t302 _ A42.out).mono ?_
   rintro e w74 ⟨rfl, hb⟩
   refine ⟨_, rfl, ?_⟩
   replace BK277 := bb BK277 hb
   replace BK278 := bb BK278 hb
   replace BK293 := bb BK293 hb
   replace BK298 := bb BK298 hb
   replace HB := as_ (below_step bA hb)
   (try clear hb)
   (try clear hb2)
   (try clear hk)
   (try clear hi)
   refine hK.out _ _ ⟨(blk_cell BK277.out 0).trans rfl, (blk_cell BK277.out 1).trans rfl, (blk_cell BK277.out 2).trans rfl⟩ (fun hHeld => ?_)
   clear hK K
   refine norm_ (a' := ?_) ?_ ?_
   rotate_left
   ·show Act.put _ (some 60) _ = _
    simp only [Act.put, List.setIfInBounds_toArray, List.set_cons_zero, List.set_cons_succ, i64_w, i32_w]
    rfl
   refine one_ (i := 6) (N := some 62) #[tt, tt, tt, tt, tt, tt, tt, ff, ff, ff, ff, ff, ff, ff, ff, ff, ff, ff, ff, ff, ff, ff, ff, ff, ff, ff, ff, ff, ff] rfl rfl (one_of HT_.out (by kernel_rfl)) (by decide) (fun K hK => ?_)
   refine goes_ Tryz.func11 (by kernel_rfl) rfl #[.agg #[.int .i64 t300, .int .i64 t301, .string t302], .int .i64 a1] (by rfl) rfl rfl aO ?_
   with_reducible refine (withyref12_May.calls t300 t301 t302 a1 t303 _ A43.out).mono ?_
   rintro e w75 ⟨rfl, hb⟩
   refine ⟨_, rfl, ?_⟩
   replace BK277 := bb BK277 hb
   replace BK278 := bb BK278 hb
   replace BK293 := bb BK293 hb
   replace BK298 := bb BK298 hb
   replace HB := as_ (below_step bA hb)
   (try clear hb)
   (try clear hb2)
   (try clear hk)
   (try clear hi)
   refine hK.out _ _ ⟨(blk_cell BK277.out 0).trans rfl, (blk_cell BK277.out 1).trans rfl, (blk_cell BK277.out 2).trans rfl⟩ (fun hHeld => ?_)
   clear hK K
   refine norm_ (a' := ?_) ?_ ?_
   rotate_left
   ·show Act.put _ (some 62) _ = _
    simp only [Act.put, List.setIfInBounds_toArray, List.set_cons_zero, List.set_cons_succ, i64_w, i32_w]
    rfl
   refine pure_ (i := 7) (N := some 63) (v := ?_) (a' := ?_) #[tt, tt, tt, tt, tt, tt, tt, tt, ff, ff, ff, ff, ff, ff, ff, ff, ff, ff, ff, ff, ff, ff, ff, ff, ff, ff, ff, ff, ff] rfl rfl (any_of HT_.out (by kernel_rfl)) (fun _ _ _ h => h) (Or.inl ⟨by rfl, ?_⟩) ?_ ?_
   rotate_left
   ·intro w'
    go_simp
    with_reducible rfl
   rotate_left
   ·exact aP
   refine pure_ (i := 8) (N := some 64) (v := ?_) (a' := ?_) #[tt, tt, tt, tt, tt, tt, tt, tt, tt, ff, ff, ff, ff, ff, ff, ff, ff, ff, ff, ff, ff, ff, ff, ff, ff, ff, ff, ff, ff] rfl rfl (any_of HT_.out (by kernel_rfl)) (fun _ _ _ h => h) (Or.inl ⟨by rfl, ?_⟩) ?_ ?_
   rotate_left
   ·intro w'
    go_simp
    with_reducible rfl
   rotate_left
   ·exact aP
   refine pure_ (i := 9) (N := some 65) (v := ?_) (a' := ?_) #[tt, tt, tt, tt, tt, tt, tt, tt, tt, tt, ff, ff, ff, ff, ff, ff, ff, ff, ff, ff, ff, ff, ff, ff, ff, ff, ff, ff, ff] rfl rfl (any_of HT_.out (by kernel_rfl)) (fun _ _ _ h => h) (Or.inl ⟨by rfl, ?_⟩) ?_ ?_
   rotate_left
   ·intro w'
    go_simp
    with_reducible rfl
   rotate_left
   ·exact aP
   refine pure_ (i := 10) (N := some 66) (v := ?_) (a' := ?_) #[tt, tt, tt, tt, tt, tt, tt, tt, tt, tt, tt, ff, ff, ff, ff, ff, ff, ff, ff, ff, ff, ff, ff, ff, ff, ff, ff, ff, ff] rfl rfl (any_of HT_.out (by kernel_rfl)) (fun _ _ _ h => h) (Or.inl ⟨by rfl, ?_⟩) ?_ ?_
   rotate_left
   ·intro w'
    go_simp
    with_reducible rfl
   rotate_left
   ·exact aP
   refine pure_ (i := 11) (N := some 67) (v := ?_) (a' := ?_) #[tt, tt, tt, tt, tt, tt, tt, tt, tt, tt, tt, tt, ff, ff, ff, ff, ff, ff, ff, ff, ff, ff, ff, ff, ff, ff, ff, ff, ff] rfl rfl (any_of HT_.out (by kernel_rfl)) (fun _ _ _ h => h) (Or.inl ⟨by rfl, ?_⟩) ?_ ?_
   rotate_left
   ·intro w'
    go_simp
    with_reducible rfl
   rotate_left
   ·exact aP
   refine pure_ (i := 12) (N := some 68) (v := ?_) (a' := ?_) #[tt, tt, tt, tt, tt, tt, tt, tt, tt, tt, tt, tt, tt, ff, ff, ff, ff, ff, ff, ff, ff, ff, ff, ff, ff, ff, ff, ff, ff] rfl rfl (any_of HT_.out (by kernel_rfl)) (fun _ _ _ h => h) (Or.inl ⟨by rfl, ?_⟩) ?_ ?_
   rotate_left
   ·intro w'
    go_simp
    with_reducible rfl
   rotate_left
   ·exact aP
   refine pure_ (i := 13) (N := some 69) (v := ?_) (a' := ?_) #[tt, tt, tt, tt, tt, tt, tt, tt, tt, tt, tt, tt, tt, tt, ff, ff, ff, ff, ff, ff, ff, ff, ff, ff, ff, ff, ff, ff, ff] rfl rfl (any_of HT_.out (by kernel_rfl)) (fun _ _ _ h => h) (Or.inl ⟨by rfl, ?_⟩) ?_ ?_
   rotate_left
   ·intro w'
    go_simp
    with_reducible rfl
   rotate_left
   ·exact aP
   refine pure_ (i := 14) (N := some 70) (v := undef) (a' := ?_) #[tt, tt, tt, tt, tt, tt, tt, tt, tt, tt, tt, tt, tt, tt, tt, ff, ff, ff, ff, ff, ff, ff, ff, ff, ff, ff, ff, ff, ff] rfl rfl (any_of HT_.out (by kernel_rfl)) (fun _ _ _ h => h) (Or.inr ⟨by rfl, rfl⟩) ?_ ?_
   rotate_left
   ·exact aP
   refine pure_ (i := 15) (N := some 71) (v := undef) (a' := ?_) #[tt, tt, tt, tt, tt, tt, tt, tt, tt, tt, tt, tt, tt, tt, tt, tt, ff, ff, ff, ff, ff, ff, ff, ff, ff, ff, ff, ff, ff] rfl rfl (any_of HT_.out (by kernel_rfl)) (fun _ _ _ h => h) (Or.inr ⟨by rfl, rfl⟩) ?_ ?_
   rotate_left
   ·exact aP
   refine pure_ (i := 16) (N := some 72) (v := undef) (a' := ?_) #[tt, tt, tt, tt, tt, tt, tt, tt, tt, tt, tt, tt, tt, tt, tt, tt, tt, ff, ff, ff, ff, ff, ff, ff, ff, ff, ff, ff, ff] rfl rfl (any_of HT_.out (by kernel_rfl)) (fun _ _ _ h => h) (Or.inr ⟨by rfl, rfl⟩) ?_ ?_
   rotate_left
   ·exact aP
   refine pure_ (i := 17) (N := some 73) (v := ?_) (a' := ?_) #[tt, tt, tt, tt, tt, tt, tt, tt, tt, tt, tt, tt, tt, tt, tt, tt, tt, tt, ff, ff, ff, ff, ff, ff, ff, ff, ff, ff, ff] rfl rfl (any_of HT_.out (by kernel_rfl)) (fun _ _ _ h => h) (Or.inl ⟨by rfl, ?_⟩) ?_ ?_
   rotate_left
   ·intro w'
    go_simp
    with_reducible rfl
   rotate_left
   ·exact aP
   refine pure_ (i := 18) (N := some 74) (v := ?_) (a' := ?_) #[tt, tt, tt, tt, tt, tt, tt, tt, tt, tt, tt, tt, tt, tt, tt, tt, tt, tt, tt, ff, ff, ff, ff, ff, ff, ff, ff, ff, ff] rfl rfl (any_of HT_.out (by kernel_rfl)) (fun _ _ _ h => h) (Or.inl ⟨by rfl, ?_⟩) ?_ ?_
   rotate_left
   ·intro w'
    go_simp
    with_reducible rfl
   rotate_left
   ·exact aP
   refine pure_ (i := 19) (N := some 75) (v := undef) (a' := ?_) #[tt, tt, tt, tt, tt, tt, tt, tt, tt, tt, tt, tt, tt, tt, tt, tt, tt, tt, tt, tt, ff, ff, ff, ff, ff, ff, ff, ff, ff] rfl rfl (any_of HT_.out (by kernel_rfl)) (fun _ _ _ h => h) (Or.inr ⟨by rfl, rfl⟩) ?_ ?_
   rotate_left
   ·exact aP
   refine pure_ (i := 20) (N := some 76) (v := undef) (a' := ?_) #[tt, tt, tt, tt, tt, tt, tt, tt, tt, tt, tt, tt, tt, tt, tt, tt, tt, tt, tt, tt, tt, ff, ff, ff, ff, ff, ff, ff, ff] rfl rfl (any_of HT_.out (by kernel_rfl)) (fun _ _ _ h => h) (Or.inr ⟨by rfl, rfl⟩) ?_ ?_
   rotate_left
   ·exact aP
   refine pure_ (i := 21) (N := some 77) (v := undef) (a' := ?_) #[tt, tt, tt, tt, tt, tt, tt, tt, tt, tt, tt, tt, tt, tt, tt, tt, tt, tt, tt, tt, tt, tt, ff, ff, ff, ff, ff, ff, ff] rfl rfl (any_of HT_.out (by kernel_rfl)) (fun _ _ _ h => h) (Or.inr ⟨by rfl, rfl⟩) ?_ ?_
   rotate_left
   ·exact aP
   refine pure_ (i := 22) (N := some 78) (v := undef) (a' := ?_) #[tt, tt, tt, tt, tt, tt, tt, tt, tt, tt, tt, tt, tt, tt, tt, tt, tt, tt, tt, tt, tt, tt, tt, ff, ff, ff, ff, ff, ff] rfl rfl (any_of HT_.out (by kernel_rfl)) (fun _ _ _ h => h) (Or.inr ⟨by rfl, rfl⟩) ?_ ?_
   rotate_left
   ·exact aP
   refine pure_ (i := 23) (N := some 79) (v := ?_) (a' := ?_) #[tt, tt, tt, tt, tt, tt, tt, tt, tt, tt, tt, tt, tt, tt, tt, tt, tt, tt, tt, tt, tt, tt, tt, tt, ff, ff, ff, ff, ff] rfl rfl (any_of HT_.out (by kernel_rfl)) (fun _ _ _ h => h) (Or.inl ⟨by rfl, ?_⟩) ?_ ?_
   rotate_left
   ·intro w'
    go_simp
    with_reducible rfl
   rotate_left
   ·exact aP
   refine pure_ (i := 24) (N := some 80) (v := ?_) (a' := ?_) #[tt, tt, tt, tt, tt, tt, tt, tt, tt, tt, tt, tt, tt, tt, tt, tt, tt, tt, tt, tt, tt, tt, tt, tt, tt, ff, ff, ff, ff] rfl rfl (any_of HT_.out (by kernel_rfl)) (fun _ _ _ h => h) (Or.inl ⟨by rfl, ?_⟩) ?_ ?_
   rotate_left
   ·intro w'
    go_simp
    with_reducible rfl
   rotate_left
   ·exact aP
   refine pure_ (i := 25) (N := some 81) (v := undef) (a' := ?_) #[tt, tt, tt, tt, tt, tt, tt, tt, tt, tt, tt, tt, tt, tt, tt, tt, tt, tt, tt, tt, tt, tt, tt, tt, tt, tt, ff, ff, ff] rfl rfl (any_of HT_.out (by kernel_rfl)) (fun _ _ _ h => h) (Or.inr ⟨by rfl, rfl⟩) ?_ ?_
   rotate_left
   ·exact aP
   refine pure_ (i := 26) (N := some 82) (v := undef) (a' := ?_) #[tt, tt, tt, tt, tt, tt, tt, tt, tt, tt, tt, tt, tt, tt, tt, tt, tt, tt, tt, tt, tt, tt, tt, tt, tt, tt, tt, ff, ff] rfl rfl (any_of HT_.out (by kernel_rfl)) (fun _ _ _ h => h) (Or.inr ⟨by rfl, rfl⟩) ?_ ?_
   rotate_left
   ·exact aP
   refine pure_ (i := 27) (N := some 83) (v := undef) (a' := ?_) #[tt, tt, tt, tt, tt, tt, tt, tt, tt, tt, tt, tt, tt, tt, tt, tt, tt, tt, tt, tt, tt, tt, tt, tt, tt, tt, tt, tt, ff] rfl rfl (any_of HT_.out (by kernel_rfl)) (fun _ _ _ h => h) (Or.inr ⟨by rfl, rfl⟩) ?_ ?_
   rotate_left
   ·exact aP
   refine pure_ (i := 28) (N := some 84) (v := ?_) (a' := ?_) #[tt, tt, tt, tt, tt, tt, tt, tt, tt, tt, tt, tt, tt, tt, tt, tt, tt, tt, tt, tt, tt, tt, tt, tt, tt, tt, tt, tt, tt] rfl rfl (any_of HT_.out (by kernel_rfl)) (fun _ _ _ h => h) (Or.inl ⟨by rfl, ?_⟩) ?_ ?_
   rotate_left
   ·intro w'
    go_simp
    with_reducible rfl
   rotate_left
   ·exact aP
   refine done_ (done_of HT_.out (by kernel_rfl)) ?_
   try go_wp2
   go_meet
   case rel => exact ⟨_, (true), (by first | rfl | (simp; done) | (simp [*]; done)), H', ⟨by first | omega | exact Nat.le_refl _⟩, ⟨by refine bx ?_; exact BK277.out⟩, ⟨by refine bx ?_; exact BK278.out⟩, ⟨by refine bx ?_; exact BK293.out⟩, ⟨by refine bx ?_; exact BK298.out⟩, ⟨by repeat (first | (with_reducible first | exact HB.out | apply below_alloc | apply pw_below_drewN | apply below_drew1 | refine below_set ?_ GE277.out | refine below_set ?_ GE278.out | refine below_set ?_ GE293.out | refine below_set ?_ GE298.out) | exact HB.out)⟩⟩
  rw [if_pos c50] at H
  have c50b0 : (t282.toList == t287.toList) = true := beq_iff_eq.mpr c50
  have c50b1 : (t282.toList != t287.toList) = false := bne_eq_false_iff_eq.mpr c50
  clear c50
  by_cases c51 : t283 = t288
  rotate_left
  ·rw [if_neg c51] at H
   have c51b0 : (t283 == t288) = false := beq_eq_false_iff_ne.mpr c51
   have c51b1 : (t283 != t288) = true := bne_iff_ne.mpr c51
   have H' := Aside0.mk H
   clear H
   try go_wp2
   have n0_ : Aside0 ((((w36.setCell ⟨gb298, 0, none⟩ (.int .i64 t294)).setCell ⟨gb298, 1, none⟩ (.int .i64 t295)).setCell ⟨gb298, 2, none⟩ (.string t296)).heap[gb277]? = some (.cells #[.int .i64 t279, .int .i64 t280, .string t281] 23 (0, 0))) := ⟨by refine bx ?_; refine blk_far ?_ NB277_298.out _; refine bx ?_; refine blk_far ?_ NB277_298.out _; refine bx ?_; refine blk_far ?_ NB277_298.out _; refine bx ?_; exact BK277.out⟩
   have n1_ : Aside0 ((((w36.setCell ⟨gb298, 0, none⟩ (.int .i64 t294)).setCell ⟨gb298, 1, none⟩ (.int .i64 t295)).setCell ⟨gb298, 2, none⟩ (.string t296)).heap[gb278]? = some (.cells #[.string a2_0, .string a2_1, .int .i64 a2_2] 25 (0, 0))) := ⟨by refine bx ?_; refine blk_far ?_ NB278_298.out _; refine bx ?_; refine blk_far ?_ NB278_298.out _; refine bx ?_; refine blk_far ?_ NB278_298.out _; refine bx ?_; exact BK278.out⟩
   have n2_ : Aside0 ((((w36.setCell ⟨gb298, 0, none⟩ (.int .i64 t294)).setCell ⟨gb298, 1, none⟩ (.int .i64 t295)).setCell ⟨gb298, 2, none⟩ (.string t296)).heap[gb293]? = some (.cells #[.int .i64 t289, .int .i64 t290, .string t291] 23 (0, 0))) := ⟨by refine bx ?_; refine blk_far ?_ NB293_298.out _; refine bx ?_; refine blk_far ?_ NB293_298.out _; refine bx ?_; refine blk_far ?_ NB293_298.out _; refine bx ?_; exact BK293.out⟩
   have n3_ : Aside0 ((((w36.setCell ⟨gb298, 0, none⟩ (.int .i64 t294)).setCell ⟨gb298, 1, none⟩ (.int .i64 t295)).setCell ⟨gb298, 2, none⟩ (.string t296)).heap[gb298]? = some (.cells #[.int .i64 t294, .int .i64 t295, .string t296] 31 (0, 0))) := ⟨by refine bx ?_; refine blk_put (cs := #[.int .i64 t294, .int .i64 t295, .string (⟨#[]⟩ : ByteArray)]) ?_ 2 _ rfl; refine bx ?_; refine blk_put (cs := #[.int .i64 t294, .int .i64 0, .string (⟨#[]⟩ : ByteArray)]) ?_ 1 _ rfl; refine bx ?_; refine blk_put (cs := #[.int .i64 0, .int .i64 0, .string (⟨#[]⟩ : ByteArray)]) ?_ 0 _ rfl; refine bx ?_; exact BK298.out⟩
   have n4_ : Aside0 (Below w.heap.size w (((w36.setCell ⟨gb298, 0, none⟩ (.int .i64 t294)).setCell ⟨gb298, 1, none⟩ (.int .i64 t295)).setCell ⟨gb298, 2, none⟩ (.string t296))) := ⟨by repeat (first | (with_reducible first | exact HB.out | apply below_alloc | apply pw_below_drewN | apply below_drew1 | refine below_set ?_ GE277.out | refine below_set ?_ GE278.out | refine below_set ?_ GE293.out | refine below_set ?_ GE298.out) | exact HB.out)⟩
   (try clear BK277)
   (try clear BK278)
   (try clear BK293)
   (try clear BK298)
   (try clear HB)
   generalize (((w36.setCell ⟨gb298, 0, none⟩ (.int .i64 t294)).setCell ⟨gb298, 1, none⟩ (.int .i64 t295)).setCell ⟨gb298, 2, none⟩ (.string t296)) = w66 at n0_ n1_ n2_ n3_ n4_ ⊢
   have BK277 := n0_
   have BK278 := n1_
   have BK293 := n2_
   have BK298 := n3_
   have HB := n4_
   clear n0_ n1_ n2_ n3_ n4_
   replace BK277 := as_ (blk_drew BK277.out)
   replace BK278 := as_ (blk_drew BK278.out)
   replace BK293 := as_ (blk_drew BK293.out)
   replace BK298 := as_ (blk_drew BK298.out)
   replace HB := as_ (below_drew1 HB.out)
   refine start_ (n := 29) (S := fun w' => w'.cell? ⟨gb277, 0, none⟩ = some (.int .i64 t279) ∧ w'.cell? ⟨gb277, 1, none⟩ = some (.int .i64 t280) ∧ w'.cell? ⟨gb277, 2, none⟩ = some (.string t281)) (ds := []) #[ff, ff, ff, ff, ff, ff, ff, ff, ff, ff, ff, ff, ff, ff, ff, ff, ff, ff, ff, ff, ff, ff, ff, ff, ff, ff, ff, ff, ff] (by kernel_rfl) rfl rfl ⟨(blk_cell BK277.out 0).trans rfl, (blk_cell BK277.out 1).trans rfl, (blk_cell BK277.out 2).trans rfl⟩ (fun hHeld => ?_); refine with_tabW withylaw12_ChainTells.tab8 withylaw12_ChainTells.bits8 (fun HT_ HW_ => ?_)
   generalize w66.drew = w67 at BK277 BK278 BK293 BK298 HB hHeld ⊢
   refine pure_ (i := 1) (N := some 57) (v := ?_) (a' := ?_) #[ff, tt, ff, ff, ff, ff, ff, ff, ff, ff, ff, ff, ff, ff, ff, ff, ff, ff, ff, ff, ff, ff, ff, ff, ff, ff, ff, ff, ff] rfl rfl (any_of HT_.out (by kernel_rfl)) (fun _ _ _ h => h) (Or.inl ⟨by rfl, ?_⟩) ?_ ?_
   rotate_left
   ·intro w'
    go_simp
    with_reducible rfl
   rotate_left
   ·exact aP
   refine pure_ (i := 5) (N := some 61) (v := ?_) (a' := ?_) #[ff, tt, ff, ff, ff, tt, ff, ff, ff, ff, ff, ff, ff, ff, ff, ff, ff, ff, ff, ff, ff, ff, ff, ff, ff, ff, ff, ff, ff] rfl rfl (any_of HT_.out (by kernel_rfl)) (fun _ _ _ h => h) (Or.inl ⟨by rfl, ?_⟩) ?_ ?_
   rotate_left
   ·intro w'
    go_simp
    with_reducible rfl
   rotate_left
   ·exact aP
   refine take_ (i := 0) (N := some 56) (v := ?_) (a' := ?_) #[tt, tt, ff, ff, ff, tt, ff, ff, ff, ff, ff, ff, ff, ff, ff, ff, ff, ff, ff, ff, ff, ff, ff, ff, ff, ff, ff, ff, ff] rfl rfl (take_ofW HT_.out HW_.out (by kernel_rfl)) (fun _ _ _ h => h) (Or.inl ⟨by rfl, ?_⟩) hHeld ?_ ?_
   rotate_left
   ·rintro w' ⟨s0, s1, s2⟩
    go_simp
    with_reducible rfl
   rotate_left
   ·exact aP
   refine take_ (i := 3) (N := some 59) (v := ?_) (a' := ?_) #[tt, tt, ff, tt, ff, tt, ff, ff, ff, ff, ff, ff, ff, ff, ff, ff, ff, ff, ff, ff, ff, ff, ff, ff, ff, ff, ff, ff, ff] rfl rfl (take_ofW HT_.out HW_.out (by kernel_rfl)) (fun _ _ _ h => h) (Or.inl ⟨by rfl, ?_⟩) hHeld ?_ ?_
   rotate_left
   ·rintro w' ⟨s0, s1, s2⟩
    go_simp
    with_reducible rfl
   rotate_left
   ·exact aP
   refine one_ (i := 2) (N := some 58) #[tt, tt, tt, tt, ff, tt, ff, ff, ff, ff, ff, ff, ff, ff, ff, ff, ff, ff, ff, ff, ff, ff, ff, ff, ff, ff, ff, ff, ff] rfl rfl (one_of HT_.out (by kernel_rfl)) (by decide) (fun K hK => ?_)
   refine goes_ Tryz.func10 (by kernel_rfl) rfl #[.agg #[.int .i64 t279, .int .i64 t280, .string t281], .int .i64 a1] (by rfl) rfl rfl aO ?_
   with_reducible refine (chain_May.calls t279 t280 t281 a1 t299 _ A41.out).mono ?_
   rintro e w68 ⟨rfl, hb⟩
   refine ⟨_, rfl, ?_⟩
   replace BK277 := bb BK277 hb
   replace BK278 := bb BK278 hb
   replace BK293 := bb BK293 hb
   replace BK298 := bb BK298 hb
   replace HB := as_ (below_step bA hb)
   (try clear hb)
   (try clear hb2)
   (try clear hk)
   (try clear hi)
   refine hK.out _ _ ⟨(blk_cell BK277.out 0).trans rfl, (blk_cell BK277.out 1).trans rfl, (blk_cell BK277.out 2).trans rfl⟩ (fun hHeld => ?_)
   clear hK K
   refine norm_ (a' := ?_) ?_ ?_
   rotate_left
   ·show Act.put _ (some 58) _ = _
    simp only [Act.put, List.setIfInBounds_toArray, List.set_cons_zero, List.set_cons_succ, i64_w, i32_w]
    rfl
   refine one_ (i := 4) (N := some 60) #[tt, tt, tt, tt, tt, tt, ff, ff, ff, ff, ff, ff, ff, ff, ff, ff, ff, ff, ff, ff, ff, ff, ff, ff, ff, ff, ff, ff, ff] rfl rfl (one_of HT_.out (by kernel_rfl)) (by decide) (fun K hK => ?_)
   refine goes_ Tryz.func7 (by kernel_rfl) rfl #[.agg #[.int .i64 t279, .int .i64 t280, .string t281]] (by rfl) rfl rfl aO ?_
   with_reducible refine (withylaw12_Ref.calls t279 t280 t281 t300 t301 t302 _ A42.out).mono ?_
   rintro e w69 ⟨rfl, hb⟩
   refine ⟨_, rfl, ?_⟩
   replace BK277 := bb BK277 hb
   replace BK278 := bb BK278 hb
   replace BK293 := bb BK293 hb
   replace BK298 := bb BK298 hb
   replace HB := as_ (below_step bA hb)
   (try clear hb)
   (try clear hb2)
   (try clear hk)
   (try clear hi)
   refine hK.out _ _ ⟨(blk_cell BK277.out 0).trans rfl, (blk_cell BK277.out 1).trans rfl, (blk_cell BK277.out 2).trans rfl⟩ (fun hHeld => ?_)
   clear hK K
   refine norm_ (a' := ?_) ?_ ?_
   rotate_left
   ·show Act.put _ (some 60) _ = _
    simp only [Act.put, List.setIfInBounds_toArray, List.set_cons_zero, List.set_cons_succ, i64_w, i32_w]
    rfl
   refine one_ (i := 6) (N := some 62) #[tt, tt, tt, tt, tt, tt, tt, ff, ff, ff, ff, ff, ff, ff, ff, ff, ff, ff, ff, ff, ff, ff, ff, ff, ff, ff, ff, ff, ff] rfl rfl (one_of HT_.out (by kernel_rfl)) (by decide) (fun K hK => ?_)
   refine goes_ Tryz.func11 (by kernel_rfl) rfl #[.agg #[.int .i64 t300, .int .i64 t301, .string t302], .int .i64 a1] (by rfl) rfl rfl aO ?_
   with_reducible refine (withyref12_May.calls t300 t301 t302 a1 t303 _ A43.out).mono ?_
   rintro e w70 ⟨rfl, hb⟩
   refine ⟨_, rfl, ?_⟩
   replace BK277 := bb BK277 hb
   replace BK278 := bb BK278 hb
   replace BK293 := bb BK293 hb
   replace BK298 := bb BK298 hb
   replace HB := as_ (below_step bA hb)
   (try clear hb)
   (try clear hb2)
   (try clear hk)
   (try clear hi)
   refine hK.out _ _ ⟨(blk_cell BK277.out 0).trans rfl, (blk_cell BK277.out 1).trans rfl, (blk_cell BK277.out 2).trans rfl⟩ (fun hHeld => ?_)
   clear hK K
   refine norm_ (a' := ?_) ?_ ?_
   rotate_left
   ·show Act.put _ (some 62) _ = _
    simp only [Act.put, List.setIfInBounds_toArray, List.set_cons_zero, List.set_cons_succ, i64_w, i32_w]
    rfl
   refine pure_ (i := 7) (N := some 63) (v := ?_) (a' := ?_) #[tt, tt, tt, tt, tt, tt, tt, tt, ff, ff, ff, ff, ff, ff, ff, ff, ff, ff, ff, ff, ff, ff, ff, ff, ff, ff, ff, ff, ff] rfl rfl (any_of HT_.out (by kernel_rfl)) (fun _ _ _ h => h) (Or.inl ⟨by rfl, ?_⟩) ?_ ?_
   rotate_left
   ·intro w'
    go_simp
    with_reducible rfl
   rotate_left
   ·exact aP
   refine pure_ (i := 8) (N := some 64) (v := ?_) (a' := ?_) #[tt, tt, tt, tt, tt, tt, tt, tt, tt, ff, ff, ff, ff, ff, ff, ff, ff, ff, ff, ff, ff, ff, ff, ff, ff, ff, ff, ff, ff] rfl rfl (any_of HT_.out (by kernel_rfl)) (fun _ _ _ h => h) (Or.inl ⟨by rfl, ?_⟩) ?_ ?_
   rotate_left
   ·intro w'
    go_simp
    with_reducible rfl
   rotate_left
   ·exact aP
   refine pure_ (i := 9) (N := some 65) (v := ?_) (a' := ?_) #[tt, tt, tt, tt, tt, tt, tt, tt, tt, tt, ff, ff, ff, ff, ff, ff, ff, ff, ff, ff, ff, ff, ff, ff, ff, ff, ff, ff, ff] rfl rfl (any_of HT_.out (by kernel_rfl)) (fun _ _ _ h => h) (Or.inl ⟨by rfl, ?_⟩) ?_ ?_
   rotate_left
   ·intro w'
    go_simp
    with_reducible rfl
   rotate_left
   ·exact aP
   refine pure_ (i := 10) (N := some 66) (v := ?_) (a' := ?_) #[tt, tt, tt, tt, tt, tt, tt, tt, tt, tt, tt, ff, ff, ff, ff, ff, ff, ff, ff, ff, ff, ff, ff, ff, ff, ff, ff, ff, ff] rfl rfl (any_of HT_.out (by kernel_rfl)) (fun _ _ _ h => h) (Or.inl ⟨by rfl, ?_⟩) ?_ ?_
   rotate_left
   ·intro w'
    go_simp
    with_reducible rfl
   rotate_left
   ·exact aP
   refine pure_ (i := 11) (N := some 67) (v := ?_) (a' := ?_) #[tt, tt, tt, tt, tt, tt, tt, tt, tt, tt, tt, tt, ff, ff, ff, ff, ff, ff, ff, ff, ff, ff, ff, ff, ff, ff, ff, ff, ff] rfl rfl (any_of HT_.out (by kernel_rfl)) (fun _ _ _ h => h) (Or.inl ⟨by rfl, ?_⟩) ?_ ?_
   rotate_left
   ·intro w'
    go_simp
    with_reducible rfl
   rotate_left
   ·exact aP
   refine pure_ (i := 12) (N := some 68) (v := ?_) (a' := ?_) #[tt, tt, tt, tt, tt, tt, tt, tt, tt, tt, tt, tt, tt, ff, ff, ff, ff, ff, ff, ff, ff, ff, ff, ff, ff, ff, ff, ff, ff] rfl rfl (any_of HT_.out (by kernel_rfl)) (fun _ _ _ h => h) (Or.inl ⟨by rfl, ?_⟩) ?_ ?_
   rotate_left
   ·intro w'
    go_simp
    with_reducible rfl
   rotate_left
   ·exact aP
   refine pure_ (i := 13) (N := some 69) (v := ?_) (a' := ?_) #[tt, tt, tt, tt, tt, tt, tt, tt, tt, tt, tt, tt, tt, tt, ff, ff, ff, ff, ff, ff, ff, ff, ff, ff, ff, ff, ff, ff, ff] rfl rfl (any_of HT_.out (by kernel_rfl)) (fun _ _ _ h => h) (Or.inl ⟨by rfl, ?_⟩) ?_ ?_
   rotate_left
   ·intro w'
    go_simp
    with_reducible rfl
   rotate_left
   ·exact aP
   refine pure_ (i := 14) (N := some 70) (v := ?_) (a' := ?_) #[tt, tt, tt, tt, tt, tt, tt, tt, tt, tt, tt, tt, tt, tt, tt, ff, ff, ff, ff, ff, ff, ff, ff, ff, ff, ff, ff, ff, ff] rfl rfl (any_of HT_.out (by kernel_rfl)) (fun _ _ _ h => h) (Or.inl ⟨by rfl, ?_⟩) ?_ ?_
   rotate_left
   ·intro w'
    go_simp
    with_reducible rfl
   rotate_left
   ·exact aP
   refine pure_ (i := 15) (N := some 71) (v := ?_) (a' := ?_) #[tt, tt, tt, tt, tt, tt, tt, tt, tt, tt, tt, tt, tt, tt, tt, tt, ff, ff, ff, ff, ff, ff, ff, ff, ff, ff, ff, ff, ff] rfl rfl (any_of HT_.out (by kernel_rfl)) (fun _ _ _ h => h) (Or.inl ⟨by rfl, ?_⟩) ?_ ?_
   rotate_left
   ·intro w'
    go_simp
    with_reducible rfl
   rotate_left
   ·exact aP
   refine pure_ (i := 16) (N := some 72) (v := ?_) (a' := ?_) #[tt, tt, tt, tt, tt, tt, tt, tt, tt, tt, tt, tt, tt, tt, tt, tt, tt, ff, ff, ff, ff, ff, ff, ff, ff, ff, ff, ff, ff] rfl rfl (any_of HT_.out (by kernel_rfl)) (fun _ _ _ h => h) (Or.inl ⟨by rfl, ?_⟩) ?_ ?_
   rotate_left
   ·intro w'
    go_simp
    with_reducible rfl
   rotate_left
   ·exact aP
   refine pure_ (i := 17) (N := some 73) (v := ?_) (a' := ?_) #[tt, tt, tt, tt, tt, tt, tt, tt, tt, tt, tt, tt, tt, tt, tt, tt, tt, tt, ff, ff, ff, ff, ff, ff, ff, ff, ff, ff, ff] rfl rfl (any_of HT_.out (by kernel_rfl)) (fun _ _ _ h => h) (Or.inl ⟨by rfl, ?_⟩) ?_ ?_
   rotate_left
   ·intro w'
    go_simp
    with_reducible rfl
   rotate_left
   ·exact aP
   refine pure_ (i := 18) (N := some 74) (v := ?_) (a' := ?_) #[tt, tt, tt, tt, tt, tt, tt, tt, tt, tt, tt, tt, tt, tt, tt, tt, tt, tt, tt, ff, ff, ff, ff, ff, ff, ff, ff, ff, ff] rfl rfl (any_of HT_.out (by kernel_rfl)) (fun _ _ _ h => h) (Or.inl ⟨by rfl, ?_⟩) ?_ ?_
   rotate_left
   ·intro w'
    go_simp
    with_reducible rfl
   rotate_left
   ·exact aP
   refine pure_ (i := 19) (N := some 75) (v := undef) (a' := ?_) #[tt, tt, tt, tt, tt, tt, tt, tt, tt, tt, tt, tt, tt, tt, tt, tt, tt, tt, tt, tt, ff, ff, ff, ff, ff, ff, ff, ff, ff] rfl rfl (any_of HT_.out (by kernel_rfl)) (fun _ _ _ h => h) (Or.inr ⟨by rfl, rfl⟩) ?_ ?_
   rotate_left
   ·exact aP
   refine pure_ (i := 20) (N := some 76) (v := undef) (a' := ?_) #[tt, tt, tt, tt, tt, tt, tt, tt, tt, tt, tt, tt, tt, tt, tt, tt, tt, tt, tt, tt, tt, ff, ff, ff, ff, ff, ff, ff, ff] rfl rfl (any_of HT_.out (by kernel_rfl)) (fun _ _ _ h => h) (Or.inr ⟨by rfl, rfl⟩) ?_ ?_
   rotate_left
   ·exact aP
   refine pure_ (i := 21) (N := some 77) (v := undef) (a' := ?_) #[tt, tt, tt, tt, tt, tt, tt, tt, tt, tt, tt, tt, tt, tt, tt, tt, tt, tt, tt, tt, tt, tt, ff, ff, ff, ff, ff, ff, ff] rfl rfl (any_of HT_.out (by kernel_rfl)) (fun _ _ _ h => h) (Or.inr ⟨by rfl, rfl⟩) ?_ ?_
   rotate_left
   ·exact aP
   refine pure_ (i := 22) (N := some 78) (v := undef) (a' := ?_) #[tt, tt, tt, tt, tt, tt, tt, tt, tt, tt, tt, tt, tt, tt, tt, tt, tt, tt, tt, tt, tt, tt, tt, ff, ff, ff, ff, ff, ff] rfl rfl (any_of HT_.out (by kernel_rfl)) (fun _ _ _ h => h) (Or.inr ⟨by rfl, rfl⟩) ?_ ?_
   rotate_left
   ·exact aP
   refine pure_ (i := 23) (N := some 79) (v := ?_) (a' := ?_) #[tt, tt, tt, tt, tt, tt, tt, tt, tt, tt, tt, tt, tt, tt, tt, tt, tt, tt, tt, tt, tt, tt, tt, tt, ff, ff, ff, ff, ff] rfl rfl (any_of HT_.out (by kernel_rfl)) (fun _ _ _ h => h) (Or.inl ⟨by rfl, ?_⟩) ?_ ?_
   rotate_left
   ·intro w'
    go_simp
    with_reducible rfl
   rotate_left
   ·exact aP
   refine pure_ (i := 24) (N := some 80) (v := ?_) (a' := ?_) #[tt, tt, tt, tt, tt, tt, tt, tt, tt, tt, tt, tt, tt, tt, tt, tt, tt, tt, tt, tt, tt, tt, tt, tt, tt, ff, ff, ff, ff] rfl rfl (any_of HT_.out (by kernel_rfl)) (fun _ _ _ h => h) (Or.inl ⟨by rfl, ?_⟩) ?_ ?_
   rotate_left
   ·intro w'
    go_simp
    with_reducible rfl
   rotate_left
   ·exact aP
   refine pure_ (i := 25) (N := some 81) (v := undef) (a' := ?_) #[tt, tt, tt, tt, tt, tt, tt, tt, tt, tt, tt, tt, tt, tt, tt, tt, tt, tt, tt, tt, tt, tt, tt, tt, tt, tt, ff, ff, ff] rfl rfl (any_of HT_.out (by kernel_rfl)) (fun _ _ _ h => h) (Or.inr ⟨by rfl, rfl⟩) ?_ ?_
   rotate_left
   ·exact aP
   refine pure_ (i := 26) (N := some 82) (v := undef) (a' := ?_) #[tt, tt, tt, tt, tt, tt, tt, tt, tt, tt, tt, tt, tt, tt, tt, tt, tt, tt, tt, tt, tt, tt, tt, tt, tt, tt, tt, ff, ff] rfl rfl (any_of HT_.out (by kernel_rfl)) (fun _ _ _ h => h) (Or.inr ⟨by rfl, rfl⟩) ?_ ?_
   rotate_left
   ·exact aP
   refine pure_ (i := 27) (N := some 83) (v := undef) (a' := ?_) #[tt, tt, tt, tt, tt, tt, tt, tt, tt, tt, tt, tt, tt, tt, tt, tt, tt, tt, tt, tt, tt, tt, tt, tt, tt, tt, tt, tt, ff] rfl rfl (any_of HT_.out (by kernel_rfl)) (fun _ _ _ h => h) (Or.inr ⟨by rfl, rfl⟩) ?_ ?_
   rotate_left
   ·exact aP
   refine pure_ (i := 28) (N := some 84) (v := ?_) (a' := ?_) #[tt, tt, tt, tt, tt, tt, tt, tt, tt, tt, tt, tt, tt, tt, tt, tt, tt, tt, tt, tt, tt, tt, tt, tt, tt, tt, tt, tt, tt] rfl rfl (any_of HT_.out (by kernel_rfl)) (fun _ _ _ h => h) (Or.inl ⟨by rfl, ?_⟩) ?_ ?_
   rotate_left
   ·intro w'
    go_simp
    with_reducible rfl
   rotate_left
   ·exact aP
   refine done_ (done_of HT_.out (by kernel_rfl)) ?_
   try go_wp2
   go_meet
   case rel => exact ⟨_, (true), (by first | rfl | (simp; done) | (simp [*]; done)), H', ⟨by first | omega | exact Nat.le_refl _⟩, ⟨by refine bx ?_; exact BK277.out⟩, ⟨by refine bx ?_; exact BK278.out⟩, ⟨by refine bx ?_; exact BK293.out⟩, ⟨by refine bx ?_; exact BK298.out⟩, ⟨by repeat (first | (with_reducible first | exact HB.out | apply below_alloc | apply pw_below_drewN | apply below_drew1 | refine below_set ?_ GE277.out | refine below_set ?_ GE278.out | refine below_set ?_ GE293.out | refine below_set ?_ GE298.out) | exact HB.out)⟩⟩
  rw [if_pos c51] at H
  have c51b0 : (t283 == t288) = true := beq_iff_eq.mpr c51
  have c51b1 : (t283 != t288) = false := bne_eq_false_iff_eq.mpr c51
  clear c51
  replace H := bM H
  obtain ⟨⟨t304, t305, t306⟩, A520, H⟩ := H
  replace H : (if (!(t304 == t294) || (!(t305 == t295) || (!(t306.toList == t296.toList)))) = true then (withylaw12_ChainTells.j0 k a1 js12 true a2_0 a2_1 a2_2) else (withylaw12_ChainTells.j0 k a1 js12 (t292 != t297) a2_0 a2_1 a2_2)) = some r := H
  have A52 := Aside0.mk A520
  clear A520
  by_cases c53 : (!(t304 == t294) || (!(t305 == t295) || (!(t306.toList == t296.toList)))) = true
  ·rw [if_pos c53] at H
   have c53b0 : (!(t304 == t294) || (!(t305 == t295) || (!(t306.toList == t296.toList)))) = true := c53
   (try (have c53b8 : (t304 = t294 ∧ t305 = t295 ∧ t306.toList = t296.toList) = False := eq_false (by simpa using c53)))
   clear c53
   have H' := Aside0.mk H
   clear H
   try go_wp2
   have n0_ : Aside0 ((((w36.setCell ⟨gb298, 0, none⟩ (.int .i64 t294)).setCell ⟨gb298, 1, none⟩ (.int .i64 t295)).setCell ⟨gb298, 2, none⟩ (.string t296)).heap[gb277]? = some (.cells #[.int .i64 t279, .int .i64 t280, .string t281] 23 (0, 0))) := ⟨by refine bx ?_; refine blk_far ?_ NB277_298.out _; refine bx ?_; refine blk_far ?_ NB277_298.out _; refine bx ?_; refine blk_far ?_ NB277_298.out _; refine bx ?_; exact BK277.out⟩
   have n1_ : Aside0 ((((w36.setCell ⟨gb298, 0, none⟩ (.int .i64 t294)).setCell ⟨gb298, 1, none⟩ (.int .i64 t295)).setCell ⟨gb298, 2, none⟩ (.string t296)).heap[gb278]? = some (.cells #[.string a2_0, .string a2_1, .int .i64 a2_2] 25 (0, 0))) := ⟨by refine bx ?_; refine blk_far ?_ NB278_298.out _; refine bx ?_; refine blk_far ?_ NB278_298.out _; refine bx ?_; refine blk_far ?_ NB278_298.out _; refine bx ?_; exact BK278.out⟩
   have n2_ : Aside0 ((((w36.setCell ⟨gb298, 0, none⟩ (.int .i64 t294)).setCell ⟨gb298, 1, none⟩ (.int .i64 t295)).setCell ⟨gb298, 2, none⟩ (.string t296)).heap[gb293]? = some (.cells #[.int .i64 t289, .int .i64 t290, .string t291] 23 (0, 0))) := ⟨by refine bx ?_; refine blk_far ?_ NB293_298.out _; refine bx ?_; refine blk_far ?_ NB293_298.out _; refine bx ?_; refine blk_far ?_ NB293_298.out _; refine bx ?_; exact BK293.out⟩
   have n3_ : Aside0 ((((w36.setCell ⟨gb298, 0, none⟩ (.int .i64 t294)).setCell ⟨gb298, 1, none⟩ (.int .i64 t295)).setCell ⟨gb298, 2, none⟩ (.string t296)).heap[gb298]? = some (.cells #[.int .i64 t294, .int .i64 t295, .string t296] 31 (0, 0))) := ⟨by refine bx ?_; refine blk_put (cs := #[.int .i64 t294, .int .i64 t295, .string (⟨#[]⟩ : ByteArray)]) ?_ 2 _ rfl; refine bx ?_; refine blk_put (cs := #[.int .i64 t294, .int .i64 0, .string (⟨#[]⟩ : ByteArray)]) ?_ 1 _ rfl; refine bx ?_; refine blk_put (cs := #[.int .i64 0, .int .i64 0, .string (⟨#[]⟩ : ByteArray)]) ?_ 0 _ rfl; refine bx ?_; exact BK298.out⟩
   have n4_ : Aside0 (Below w.heap.size w (((w36.setCell ⟨gb298, 0, none⟩ (.int .i64 t294)).setCell ⟨gb298, 1, none⟩ (.int .i64 t295)).setCell ⟨gb298, 2, none⟩ (.string t296))) := ⟨by repeat (first | (with_reducible first | exact HB.out | apply below_alloc | apply pw_below_drewN | apply below_drew1 | refine below_set ?_ GE277.out | refine below_set ?_ GE278.out | refine below_set ?_ GE293.out | refine below_set ?_ GE298.out) | exact HB.out)⟩
   (try clear BK277)
   (try clear BK278)
   (try clear BK293)
   (try clear BK298)
   (try clear HB)
   generalize (((w36.setCell ⟨gb298, 0, none⟩ (.int .i64 t294)).setCell ⟨gb298, 1, none⟩ (.int .i64 t295)).setCell ⟨gb298, 2, none⟩ (.string t296)) = w54 at n0_ n1_ n2_ n3_ n4_ ⊢
   have BK277 := n0_
   have BK278 := n1_
   have BK293 := n2_
   have BK298 := n3_
   have HB := n4_
   clear n0_ n1_ n2_ n3_ n4_
   replace BK277 := as_ (blk_drew BK277.out)
   replace BK278 := as_ (blk_drew BK278.out)
   replace BK293 := as_ (blk_drew BK293.out)
   replace BK298 := as_ (blk_drew BK298.out)
   replace HB := as_ (below_drew1 HB.out)
   refine start_ (n := 29) (S := fun w' => w'.cell? ⟨gb277, 0, none⟩ = some (.int .i64 t279) ∧ w'.cell? ⟨gb277, 1, none⟩ = some (.int .i64 t280) ∧ w'.cell? ⟨gb277, 2, none⟩ = some (.string t281) ∧ w'.cell? ⟨gb293, 0, none⟩ = some (.int .i64 t289) ∧ w'.cell? ⟨gb293, 1, none⟩ = some (.int .i64 t290) ∧ w'.cell? ⟨gb293, 2, none⟩ = some (.string t291) ∧ w'.cell? ⟨gb298, 0, none⟩ = some (.int .i64 t294) ∧ w'.cell? ⟨gb298, 1, none⟩ = some (.int .i64 t295) ∧ w'.cell? ⟨gb298, 2, none⟩ = some (.string t296)) (ds := []) #[ff, ff, ff, ff, ff, ff, ff, ff, ff, ff, ff, ff, ff, ff, ff, ff, ff, ff, ff, ff, ff, ff, ff, ff, ff, ff, ff, ff, ff] (by kernel_rfl) rfl rfl ⟨(blk_cell BK277.out 0).trans rfl, (blk_cell BK277.out 1).trans rfl, (blk_cell BK277.out 2).trans rfl, (blk_cell BK293.out 0).trans rfl, (blk_cell BK293.out 1).trans rfl, (blk_cell BK293.out 2).trans rfl, (blk_cell BK298.out 0).trans rfl, (blk_cell BK298.out 1).trans rfl, (blk_cell BK298.out 2).trans rfl⟩ (fun hHeld => ?_); refine with_tabW withylaw12_ChainTells.tab8 withylaw12_ChainTells.bits8 (fun HT_ HW_ => ?_)
   generalize w54.drew = w55 at BK277 BK278 BK293 BK298 HB hHeld ⊢
   refine pure_ (i := 1) (N := some 57) (v := ?_) (a' := ?_) #[ff, tt, ff, ff, ff, ff, ff, ff, ff, ff, ff, ff, ff, ff, ff, ff, ff, ff, ff, ff, ff, ff, ff, ff, ff, ff, ff, ff, ff] rfl rfl (any_of HT_.out (by kernel_rfl)) (fun _ _ _ h => h) (Or.inl ⟨by rfl, ?_⟩) ?_ ?_
   rotate_left
   ·intro w'
    go_simp
    with_reducible rfl
   rotate_left
   ·exact aP
   refine pure_ (i := 5) (N := some 61) (v := ?_) (a' := ?_) #[ff, tt, ff, ff, ff, tt, ff, ff, ff, ff, ff, ff, ff, ff, ff, ff, ff, ff, ff, ff, ff, ff, ff, ff, ff, ff, ff, ff, ff] rfl rfl (any_of HT_.out (by kernel_rfl)) (fun _ _ _ h => h) (Or.inl ⟨by rfl, ?_⟩) ?_ ?_
   rotate_left
   ·intro w'
    go_simp
    with_reducible rfl
   rotate_left
   ·exact aP
   refine take_ (i := 0) (N := some 56) (v := ?_) (a' := ?_) #[tt, tt, ff, ff, ff, tt, ff, ff, ff, ff, ff, ff, ff, ff, ff, ff, ff, ff, ff, ff, ff, ff, ff, ff, ff, ff, ff, ff, ff] rfl rfl (take_ofW HT_.out HW_.out (by kernel_rfl)) (fun _ _ _ h => h) (Or.inl ⟨by rfl, ?_⟩) hHeld ?_ ?_
   rotate_left
   ·rintro w' ⟨s0, s1, s2, s3, s4, s5, s6, s7, s8⟩
    go_simp
    with_reducible rfl
   rotate_left
   ·exact aP
   refine take_ (i := 3) (N := some 59) (v := ?_) (a' := ?_) #[tt, tt, ff, tt, ff, tt, ff, ff, ff, ff, ff, ff, ff, ff, ff, ff, ff, ff, ff, ff, ff, ff, ff, ff, ff, ff, ff, ff, ff] rfl rfl (take_ofW HT_.out HW_.out (by kernel_rfl)) (fun _ _ _ h => h) (Or.inl ⟨by rfl, ?_⟩) hHeld ?_ ?_
   rotate_left
   ·rintro w' ⟨s0, s1, s2, s3, s4, s5, s6, s7, s8⟩
    go_simp
    with_reducible rfl
   rotate_left
   ·exact aP
   refine one_ (i := 2) (N := some 58) #[tt, tt, tt, tt, ff, tt, ff, ff, ff, ff, ff, ff, ff, ff, ff, ff, ff, ff, ff, ff, ff, ff, ff, ff, ff, ff, ff, ff, ff] rfl rfl (one_of HT_.out (by kernel_rfl)) (by decide) (fun K hK => ?_)
   refine goes_ Tryz.func10 (by kernel_rfl) rfl #[.agg #[.int .i64 t279, .int .i64 t280, .string t281], .int .i64 a1] (by rfl) rfl rfl aO ?_
   with_reducible refine (chain_May.calls t279 t280 t281 a1 t299 _ A41.out).mono ?_
   rintro e w56 ⟨rfl, hb⟩
   refine ⟨_, rfl, ?_⟩
   replace BK277 := bb BK277 hb
   replace BK278 := bb BK278 hb
   replace BK293 := bb BK293 hb
   replace BK298 := bb BK298 hb
   replace HB := as_ (below_step bA hb)
   (try clear hb)
   (try clear hb2)
   (try clear hk)
   (try clear hi)
   refine hK.out _ _ ⟨(blk_cell BK277.out 0).trans rfl, (blk_cell BK277.out 1).trans rfl, (blk_cell BK277.out 2).trans rfl, (blk_cell BK293.out 0).trans rfl, (blk_cell BK293.out 1).trans rfl, (blk_cell BK293.out 2).trans rfl, (blk_cell BK298.out 0).trans rfl, (blk_cell BK298.out 1).trans rfl, (blk_cell BK298.out 2).trans rfl⟩ (fun hHeld => ?_)
   clear hK K
   refine norm_ (a' := ?_) ?_ ?_
   rotate_left
   ·show Act.put _ (some 58) _ = _
    simp only [Act.put, List.setIfInBounds_toArray, List.set_cons_zero, List.set_cons_succ, i64_w, i32_w]
    rfl
   refine one_ (i := 4) (N := some 60) #[tt, tt, tt, tt, tt, tt, ff, ff, ff, ff, ff, ff, ff, ff, ff, ff, ff, ff, ff, ff, ff, ff, ff, ff, ff, ff, ff, ff, ff] rfl rfl (one_of HT_.out (by kernel_rfl)) (by decide) (fun K hK => ?_)
   refine goes_ Tryz.func7 (by kernel_rfl) rfl #[.agg #[.int .i64 t279, .int .i64 t280, .string t281]] (by rfl) rfl rfl aO ?_
   with_reducible refine (withylaw12_Ref.calls t279 t280 t281 t300 t301 t302 _ A42.out).mono ?_
   rintro e w57 ⟨rfl, hb⟩
   refine ⟨_, rfl, ?_⟩
   replace BK277 := bb BK277 hb
   replace BK278 := bb BK278 hb
   replace BK293 := bb BK293 hb
   replace BK298 := bb BK298 hb
   replace HB := as_ (below_step bA hb)
   (try clear hb)
   (try clear hb2)
   (try clear hk)
   (try clear hi)
   refine hK.out _ _ ⟨(blk_cell BK277.out 0).trans rfl, (blk_cell BK277.out 1).trans rfl, (blk_cell BK277.out 2).trans rfl, (blk_cell BK293.out 0).trans rfl, (blk_cell BK293.out 1).trans rfl, (blk_cell BK293.out 2).trans rfl, (blk_cell BK298.out 0).trans rfl, (blk_cell BK298.out 1).trans rfl, (blk_cell BK298.out 2).trans rfl⟩ (fun hHeld => ?_)
   clear hK K
   refine norm_ (a' := ?_) ?_ ?_
   rotate_left
   ·show Act.put _ (some 60) _ = _
    simp only [Act.put, List.setIfInBounds_toArray, List.set_cons_zero, List.set_cons_succ, i64_w, i32_w]
    rfl
   refine one_ (i := 6) (N := some 62) #[tt, tt, tt, tt, tt, tt, tt, ff, ff, ff, ff, ff, ff, ff, ff, ff, ff, ff, ff, ff, ff, ff, ff, ff, ff, ff, ff, ff, ff] rfl rfl (one_of HT_.out (by kernel_rfl)) (by decide) (fun K hK => ?_)
   refine goes_ Tryz.func11 (by kernel_rfl) rfl #[.agg #[.int .i64 t300, .int .i64 t301, .string t302], .int .i64 a1] (by rfl) rfl rfl aO ?_
   with_reducible refine (withyref12_May.calls t300 t301 t302 a1 t303 _ A43.out).mono ?_
   rintro e w58 ⟨rfl, hb⟩
   refine ⟨_, rfl, ?_⟩
   replace BK277 := bb BK277 hb
   replace BK278 := bb BK278 hb
   replace BK293 := bb BK293 hb
   replace BK298 := bb BK298 hb
   replace HB := as_ (below_step bA hb)
   (try clear hb)
   (try clear hb2)
   (try clear hk)
   (try clear hi)
   refine hK.out _ _ ⟨(blk_cell BK277.out 0).trans rfl, (blk_cell BK277.out 1).trans rfl, (blk_cell BK277.out 2).trans rfl, (blk_cell BK293.out 0).trans rfl, (blk_cell BK293.out 1).trans rfl, (blk_cell BK293.out 2).trans rfl, (blk_cell BK298.out 0).trans rfl, (blk_cell BK298.out 1).trans rfl, (blk_cell BK298.out 2).trans rfl⟩ (fun hHeld => ?_)
   clear hK K
   refine norm_ (a' := ?_) ?_ ?_
   rotate_left
   ·show Act.put _ (some 62) _ = _
    simp only [Act.put, List.setIfInBounds_toArray, List.set_cons_zero, List.set_cons_succ, i64_w, i32_w]
    rfl
   refine pure_ (i := 7) (N := some 63) (v := ?_) (a' := ?_) #[tt, tt, tt, tt, tt, tt, tt, tt, ff, ff, ff, ff, ff, ff, ff, ff, ff, ff, ff, ff, ff, ff, ff, ff, ff, ff, ff, ff, ff] rfl rfl (any_of HT_.out (by kernel_rfl)) (fun _ _ _ h => h) (Or.inl ⟨by rfl, ?_⟩) ?_ ?_
   rotate_left
   ·intro w'
    go_simp
    with_reducible rfl
   rotate_left
   ·exact aP
   refine pure_ (i := 8) (N := some 64) (v := ?_) (a' := ?_) #[tt, tt, tt, tt, tt, tt, tt, tt, tt, ff, ff, ff, ff, ff, ff, ff, ff, ff, ff, ff, ff, ff, ff, ff, ff, ff, ff, ff, ff] rfl rfl (any_of HT_.out (by kernel_rfl)) (fun _ _ _ h => h) (Or.inl ⟨by rfl, ?_⟩) ?_ ?_
   rotate_left
   ·intro w'
    go_simp
    with_reducible rfl
   rotate_left
   ·exact aP
   refine pure_ (i := 9) (N := some 65) (v := ?_) (a' := ?_) #[tt, tt, tt, tt, tt, tt, tt, tt, tt, tt, ff, ff, ff, ff, ff, ff, ff, ff, ff, ff, ff, ff, ff, ff, ff, ff, ff, ff, ff] rfl rfl (any_of HT_.out (by kernel_rfl)) (fun _ _ _ h => h) (Or.inl ⟨by rfl, ?_⟩) ?_ ?_
   rotate_left
   ·intro w'
    go_simp
    with_reducible rfl
   rotate_left
   ·exact aP
   refine pure_ (i := 10) (N := some 66) (v := ?_) (a' := ?_) #[tt, tt, tt, tt, tt, tt, tt, tt, tt, tt, tt, ff, ff, ff, ff, ff, ff, ff, ff, ff, ff, ff, ff, ff, ff, ff, ff, ff, ff] rfl rfl (any_of HT_.out (by kernel_rfl)) (fun _ _ _ h => h) (Or.inl ⟨by rfl, ?_⟩) ?_ ?_
   rotate_left
   ·intro w'
    go_simp
    with_reducible rfl
   rotate_left
   ·exact aP
   refine pure_ (i := 11) (N := some 67) (v := ?_) (a' := ?_) #[tt, tt, tt, tt, tt, tt, tt, tt, tt, tt, tt, tt, ff, ff, ff, ff, ff, ff, ff, ff, ff, ff, ff, ff, ff, ff, ff, ff, ff] rfl rfl (any_of HT_.out (by kernel_rfl)) (fun _ _ _ h => h) (Or.inl ⟨by rfl, ?_⟩) ?_ ?_
   rotate_left
   ·intro w'
    go_simp
    with_reducible rfl
   rotate_left
   ·exact aP
   refine pure_ (i := 12) (N := some 68) (v := ?_) (a' := ?_) #[tt, tt, tt, tt, tt, tt, tt, tt, tt, tt, tt, tt, tt, ff, ff, ff, ff, ff, ff, ff, ff, ff, ff, ff, ff, ff, ff, ff, ff] rfl rfl (any_of HT_.out (by kernel_rfl)) (fun _ _ _ h => h) (Or.inl ⟨by rfl, ?_⟩) ?_ ?_
   rotate_left
   ·intro w'
    go_simp
    with_reducible rfl
   rotate_left
   ·exact aP
   refine pure_ (i := 13) (N := some 69) (v := ?_) (a' := ?_) #[tt, tt, tt, tt, tt, tt, tt, tt, tt, tt, tt, tt, tt, tt, ff, ff, ff, ff, ff, ff, ff, ff, ff, ff, ff, ff, ff, ff, ff] rfl rfl (any_of HT_.out (by kernel_rfl)) (fun _ _ _ h => h) (Or.inl ⟨by rfl, ?_⟩) ?_ ?_
   rotate_left
   ·intro w'
    go_simp
    with_reducible rfl
   rotate_left
   ·exact aP
   refine pure_ (i := 14) (N := some 70) (v := ?_) (a' := ?_) #[tt, tt, tt, tt, tt, tt, tt, tt, tt, tt, tt, tt, tt, tt, tt, ff, ff, ff, ff, ff, ff, ff, ff, ff, ff, ff, ff, ff, ff] rfl rfl (any_of HT_.out (by kernel_rfl)) (fun _ _ _ h => h) (Or.inl ⟨by rfl, ?_⟩) ?_ ?_
   rotate_left
   ·intro w'
    go_simp
    with_reducible rfl
   rotate_left
   ·exact aP
   refine pure_ (i := 15) (N := some 71) (v := ?_) (a' := ?_) #[tt, tt, tt, tt, tt, tt, tt, tt, tt, tt, tt, tt, tt, tt, tt, tt, ff, ff, ff, ff, ff, ff, ff, ff, ff, ff, ff, ff, ff] rfl rfl (any_of HT_.out (by kernel_rfl)) (fun _ _ _ h => h) (Or.inl ⟨by rfl, ?_⟩) ?_ ?_
   rotate_left
   ·intro w'
    go_simp
    with_reducible rfl
   rotate_left
   ·exact aP
   refine pure_ (i := 16) (N := some 72) (v := ?_) (a' := ?_) #[tt, tt, tt, tt, tt, tt, tt, tt, tt, tt, tt, tt, tt, tt, tt, tt, tt, ff, ff, ff, ff, ff, ff, ff, ff, ff, ff, ff, ff] rfl rfl (any_of HT_.out (by kernel_rfl)) (fun _ _ _ h => h) (Or.inl ⟨by rfl, ?_⟩) ?_ ?_
   rotate_left
   ·intro w'
    go_simp
    with_reducible rfl
   rotate_left
   ·exact aP
   refine pure_ (i := 17) (N := some 73) (v := ?_) (a' := ?_) #[tt, tt, tt, tt, tt, tt, tt, tt, tt, tt, tt, tt, tt, tt, tt, tt, tt, tt, ff, ff, ff, ff, ff, ff, ff, ff, ff, ff, ff] rfl rfl (any_of HT_.out (by kernel_rfl)) (fun _ _ _ h => h) (Or.inl ⟨by rfl, ?_⟩) ?_ ?_
   rotate_left
   ·intro w'
    go_simp
    with_reducible rfl
   rotate_left
   ·exact aP
   refine pure_ (i := 18) (N := some 74) (v := ?_) (a' := ?_) #[tt, tt, tt, tt, tt, tt, tt, tt, tt, tt, tt, tt, tt, tt, tt, tt, tt, tt, tt, ff, ff, ff, ff, ff, ff, ff, ff, ff, ff] rfl rfl (any_of HT_.out (by kernel_rfl)) (fun _ _ _ h => h) (Or.inl ⟨by rfl, ?_⟩) ?_ ?_
   rotate_left
   ·intro w'
    go_simp
    with_reducible rfl
   rotate_left
   ·exact aP
   refine take_ (i := 19) (N := some 75) (v := ?_) (a' := ?_) #[tt, tt, tt, tt, tt, tt, tt, tt, tt, tt, tt, tt, tt, tt, tt, tt, tt, tt, tt, tt, ff, ff, ff, ff, ff, ff, ff, ff, ff] rfl rfl (take_ofW HT_.out HW_.out (by kernel_rfl)) (fun _ _ _ h => h) (Or.inl ⟨by rfl, ?_⟩) hHeld ?_ ?_
   rotate_left
   ·rintro w' ⟨s0, s1, s2, s3, s4, s5, s6, s7, s8⟩
    go_simp
    with_reducible rfl
   rotate_left
   ·exact aP
   refine take_ (i := 21) (N := some 77) (v := ?_) (a' := ?_) #[tt, tt, tt, tt, tt, tt, tt, tt, tt, tt, tt, tt, tt, tt, tt, tt, tt, tt, tt, tt, ff, tt, ff, ff, ff, ff, ff, ff, ff] rfl rfl (take_ofW HT_.out HW_.out (by kernel_rfl)) (fun _ _ _ h => h) (Or.inl ⟨by rfl, ?_⟩) hHeld ?_ ?_
   rotate_left
   ·rintro w' ⟨s0, s1, s2, s3, s4, s5, s6, s7, s8⟩
    go_simp
    with_reducible rfl
   rotate_left
   ·exact aP
   refine one_ (i := 20) (N := some 76) #[tt, tt, tt, tt, tt, tt, tt, tt, tt, tt, tt, tt, tt, tt, tt, tt, tt, tt, tt, tt, tt, tt, ff, ff, ff, ff, ff, ff, ff] rfl rfl (one_of HT_.out (by kernel_rfl)) (by decide) (fun K hK => ?_)
   refine goes_ Tryz.func7 (by kernel_rfl) rfl #[.agg #[.int .i64 t289, .int .i64 t290, .string t291]] (by rfl) rfl rfl aO ?_
   with_reducible refine (withylaw12_Ref.calls t289 t290 t291 t304 t305 t306 _ A52.out).mono ?_
   rintro e w59 ⟨rfl, hb⟩
   refine ⟨_, rfl, ?_⟩
   replace BK277 := bb BK277 hb
   replace BK278 := bb BK278 hb
   replace BK293 := bb BK293 hb
   replace BK298 := bb BK298 hb
   replace HB := as_ (below_step bA hb)
   (try clear hb)
   (try clear hb2)
   (try clear hk)
   (try clear hi)
   refine hK.out _ _ ⟨(blk_cell BK277.out 0).trans rfl, (blk_cell BK277.out 1).trans rfl, (blk_cell BK277.out 2).trans rfl, (blk_cell BK293.out 0).trans rfl, (blk_cell BK293.out 1).trans rfl, (blk_cell BK293.out 2).trans rfl, (blk_cell BK298.out 0).trans rfl, (blk_cell BK298.out 1).trans rfl, (blk_cell BK298.out 2).trans rfl⟩ (fun hHeld => ?_)
   clear hK K
   refine norm_ (a' := ?_) ?_ ?_
   rotate_left
   ·show Act.put _ (some 76) _ = _
    simp only [Act.put, List.setIfInBounds_toArray, List.set_cons_zero, List.set_cons_succ, i64_w, i32_w]
    rfl
   refine pure_ (i := 22) (N := some 78) (v := ?_) (a' := ?_) #[tt, tt, tt, tt, tt, tt, tt, tt, tt, tt, tt, tt, tt, tt, tt, tt, tt, tt, tt, tt, tt, tt, tt, ff, ff, ff, ff, ff, ff] rfl rfl (any_of HT_.out (by kernel_rfl)) (fun _ _ _ h => h) (Or.inl ⟨by rfl, ?_⟩) ?_ ?_
   rotate_left
   ·intro w'
    go_simp
    with_reducible rfl
   rotate_left
   ·exact aP
   refine pure_ (i := 23) (N := some 79) (v := ?_) (a' := ?_) #[tt, tt, tt, tt, tt, tt, tt, tt, tt, tt, tt, tt, tt, tt, tt, tt, tt, tt, tt, tt, tt, tt, tt, tt, ff, ff, ff, ff, ff] rfl rfl (any_of HT_.out (by kernel_rfl)) (fun _ _ _ h => h) (Or.inl ⟨by rfl, ?_⟩) ?_ ?_
   rotate_left
   ·intro w'
    go_simp
    with_reducible rfl
   rotate_left
   ·exact aP
   refine pure_ (i := 24) (N := some 80) (v := ?_) (a' := ?_) #[tt, tt, tt, tt, tt, tt, tt, tt, tt, tt, tt, tt, tt, tt, tt, tt, tt, tt, tt, tt, tt, tt, tt, tt, tt, ff, ff, ff, ff] rfl rfl (any_of HT_.out (by kernel_rfl)) (fun _ _ _ h => h) (Or.inl ⟨by rfl, ?_⟩) ?_ ?_
   rotate_left
   ·intro w'
    go_simp
    with_reducible rfl
   rotate_left
   ·exact aP
   refine pure_ (i := 25) (N := some 81) (v := undef) (a' := ?_) #[tt, tt, tt, tt, tt, tt, tt, tt, tt, tt, tt, tt, tt, tt, tt, tt, tt, tt, tt, tt, tt, tt, tt, tt, tt, tt, ff, ff, ff] rfl rfl (any_of HT_.out (by kernel_rfl)) (fun _ _ _ h => h) (Or.inr ⟨by rfl, rfl⟩) ?_ ?_
   rotate_left
   ·exact aP
   refine pure_ (i := 26) (N := some 82) (v := undef) (a' := ?_) #[tt, tt, tt, tt, tt, tt, tt, tt, tt, tt, tt, tt, tt, tt, tt, tt, tt, tt, tt, tt, tt, tt, tt, tt, tt, tt, tt, ff, ff] rfl rfl (any_of HT_.out (by kernel_rfl)) (fun _ _ _ h => h) (Or.inr ⟨by rfl, rfl⟩) ?_ ?_
   rotate_left
   ·exact aP
   refine pure_ (i := 27) (N := some 83) (v := undef) (a' := ?_) #[tt, tt, tt, tt, tt, tt, tt, tt, tt, tt, tt, tt, tt, tt, tt, tt, tt, tt, tt, tt, tt, tt, tt, tt, tt, tt, tt, tt, ff] rfl rfl (any_of HT_.out (by kernel_rfl)) (fun _ _ _ h => h) (Or.inr ⟨by rfl, rfl⟩) ?_ ?_
   rotate_left
   ·exact aP
   refine pure_ (i := 28) (N := some 84) (v := ?_) (a' := ?_) #[tt, tt, tt, tt, tt, tt, tt, tt, tt, tt, tt, tt, tt, tt, tt, tt, tt, tt, tt, tt, tt, tt, tt, tt, tt, tt, tt, tt, tt] rfl rfl (any_of HT_.out (by kernel_rfl)) (fun _ _ _ h => h) (Or.inl ⟨by rfl, ?_⟩) ?_ ?_
   rotate_left
   ·intro w'
    go_simp
    with_reducible rfl
   rotate_left
   ·exact aP
   refine done_ (done_of HT_.out (by kernel_rfl)) ?_
   try go_wp2
   go_meet
   case rel => exact ⟨_, (true), (by first | rfl | (simp; done) | (simp [*]; done)), H', ⟨by first | omega | exact Nat.le_refl _⟩, ⟨by refine bx ?_; exact BK277.out⟩, ⟨by refine bx ?_; exact BK278.out⟩, ⟨by refine bx ?_; exact BK293.out⟩, ⟨by refine bx ?_; exact BK298.out⟩, ⟨by repeat (first | (with_reducible first | exact HB.out | apply below_alloc | apply pw_below_drewN | apply below_drew1 | refine below_set ?_ GE277.out | refine below_set ?_ GE278.out | refine below_set ?_ GE293.out | refine below_set ?_ GE298.out) | exact HB.out)⟩⟩
  ·rw [if_neg c53] at H
   have c53b0 : (!(t304 == t294) || (!(t305 == t295) || (!(t306.toList == t296.toList)))) = false := by simpa using c53
   (try (have c53b8 : (t304 = t294 ∧ t305 = t295 ∧ t306.toList = t296.toList) = True := eq_true (by simpa using c53)))
   clear c53
   have H' := Aside0.mk H
   clear H
   try go_wp2
   have n0_ : Aside0 ((((w36.setCell ⟨gb298, 0, none⟩ (.int .i64 t294)).setCell ⟨gb298, 1, none⟩ (.int .i64 t295)).setCell ⟨gb298, 2, none⟩ (.string t296)).heap[gb277]? = some (.cells #[.int .i64 t279, .int .i64 t280, .string t281] 23 (0, 0))) := ⟨by refine bx ?_; refine blk_far ?_ NB277_298.out _; refine bx ?_; refine blk_far ?_ NB277_298.out _; refine bx ?_; refine blk_far ?_ NB277_298.out _; refine bx ?_; exact BK277.out⟩
   have n1_ : Aside0 ((((w36.setCell ⟨gb298, 0, none⟩ (.int .i64 t294)).setCell ⟨gb298, 1, none⟩ (.int .i64 t295)).setCell ⟨gb298, 2, none⟩ (.string t296)).heap[gb278]? = some (.cells #[.string a2_0, .string a2_1, .int .i64 a2_2] 25 (0, 0))) := ⟨by refine bx ?_; refine blk_far ?_ NB278_298.out _; refine bx ?_; refine blk_far ?_ NB278_298.out _; refine bx ?_; refine blk_far ?_ NB278_298.out _; refine bx ?_; exact BK278.out⟩
   have n2_ : Aside0 ((((w36.setCell ⟨gb298, 0, none⟩ (.int .i64 t294)).setCell ⟨gb298, 1, none⟩ (.int .i64 t295)).setCell ⟨gb298, 2, none⟩ (.string t296)).heap[gb293]? = some (.cells #[.int .i64 t289, .int .i64 t290, .string t291] 23 (0, 0))) := ⟨by refine bx ?_; refine blk_far ?_ NB293_298.out _; refine bx ?_; refine blk_far ?_ NB293_298.out _; refine bx ?_; refine blk_far ?_ NB293_298.out _; refine bx ?_; exact BK293.out⟩
   have n3_ : Aside0 ((((w36.setCell ⟨gb298, 0, none⟩ (.int .i64 t294)).setCell ⟨gb298, 1, none⟩ (.int .i64 t295)).setCell ⟨gb298, 2, none⟩ (.string t296)).heap[gb298]? = some (.cells #[.int .i64 t294, .int .i64 t295, .string t296] 31 (0, 0))) := ⟨by refine bx ?_; refine blk_put (cs := #[.int .i64 t294, .int .i64 t295, .string (⟨#[]⟩ : ByteArray)]) ?_ 2 _ rfl; refine bx ?_; refine blk_put (cs := #[.int .i64 t294, .int .i64 0, .string (⟨#[]⟩ : ByteArray)]) ?_ 1 _ rfl; refine bx ?_; refine blk_put (cs := #[.int .i64 0, .int .i64 0, .string (⟨#[]⟩ : ByteArray)]) ?_ 0 _ rfl; refine bx ?_; exact BK298.out⟩
   have n4_ : Aside0 (Below w.heap.size w (((w36.setCell ⟨gb298, 0, none⟩ (.int .i64 t294)).setCell ⟨gb298, 1, none⟩ (.int .i64 t295)).setCell ⟨gb298, 2, none⟩ (.string t296))) := ⟨by repeat (first | (with_reducible first | exact HB.out | apply below_alloc | apply pw_below_drewN | apply below_drew1 | refine below_set ?_ GE277.out | refine below_set ?_ GE278.out | refine below_set ?_ GE293.out | refine below_set ?_ GE298.out) | exact HB.out)⟩
   (try clear BK277)
   (try clear BK278)
   (try clear BK293)
   (try clear BK298)
   (try clear HB)
   generalize (((w36.setCell ⟨gb298, 0, none⟩ (.int .i64 t294)).setCell ⟨gb298, 1, none⟩ (.int .i64 t295)).setCell ⟨gb298, 2, none⟩ (.string t296)) = w60 at n0_ n1_ n2_ n3_ n4_ ⊢
   have BK277 := n0_
   have BK278 := n1_
   have BK293 := n2_
   have BK298 := n3_
   have HB := n4_
   clear n0_ n1_ n2_ n3_ n4_
   replace BK277 := as_ (blk_drew BK277.out)
   replace BK278 := as_ (blk_drew BK278.out)
   replace BK293 := as_ (blk_drew BK293.out)
   replace BK298 := as_ (blk_drew BK298.out)
   replace HB := as_ (below_drew1 HB.out)
   refine start_ (n := 29) (S := fun w' => w'.cell? ⟨gb277, 0, none⟩ = some (.int .i64 t279) ∧ w'.cell? ⟨gb277, 1, none⟩ = some (.int .i64 t280) ∧ w'.cell? ⟨gb277, 2, none⟩ = some (.string t281) ∧ w'.cell? ⟨gb293, 0, none⟩ = some (.int .i64 t289) ∧ w'.cell? ⟨gb293, 1, none⟩ = some (.int .i64 t290) ∧ w'.cell? ⟨gb293, 2, none⟩ = some (.string t291) ∧ w'.cell? ⟨gb298, 0, none⟩ = some (.int .i64 t294) ∧ w'.cell? ⟨gb298, 1, none⟩ = some (.int .i64 t295) ∧ w'.cell? ⟨gb298, 2, none⟩ = some (.string t296)) (ds := []) #[ff, ff, ff, ff, ff, ff, ff, ff, ff, ff, ff, ff, ff, ff, ff, ff, ff, ff, ff, ff, ff, ff, ff, ff, ff, ff, ff, ff, ff] (by kernel_rfl) rfl rfl ⟨(blk_cell BK277.out 0).trans rfl, (blk_cell BK277.out 1).trans rfl, (blk_cell BK277.out 2).trans rfl, (blk_cell BK293.out 0).trans rfl, (blk_cell BK293.out 1).trans rfl, (blk_cell BK293.out 2).trans rfl, (blk_cell BK298.out 0).trans rfl, (blk_cell BK298.out 1).trans rfl, (blk_cell BK298.out 2).trans rfl⟩ (fun hHeld => ?_); refine with_tabW withylaw12_ChainTells.tab8 withylaw12_ChainTells.bits8 (fun HT_ HW_ => ?_)
   generalize w60.drew = w61 at BK277 BK278 BK293 BK298 HB hHeld ⊢
   refine pure_ (i := 1) (N := some 57) (v := ?_) (a' := ?_) #[ff, tt, ff, ff, ff, ff, ff, ff, ff, ff, ff, ff, ff, ff, ff, ff, ff, ff, ff, ff, ff, ff, ff, ff, ff, ff, ff, ff, ff] rfl rfl (any_of HT_.out (by kernel_rfl)) (fun _ _ _ h => h) (Or.inl ⟨by rfl, ?_⟩) ?_ ?_
   rotate_left
   ·intro w'
    go_simp
    with_reducible rfl
   rotate_left
   ·exact aP
   refine pure_ (i := 5) (N := some 61) (v := ?_) (a' := ?_) #[ff, tt, ff, ff, ff, tt, ff, ff, ff, ff, ff, ff, ff, ff, ff, ff, ff, ff, ff, ff, ff, ff, ff, ff, ff, ff, ff, ff, ff] rfl rfl (any_of HT_.out (by kernel_rfl)) (fun _ _ _ h => h) (Or.inl ⟨by rfl, ?_⟩) ?_ ?_
   rotate_left
   ·intro w'
    go_simp
    with_reducible rfl
   rotate_left
   ·exact aP
   refine take_ (i := 0) (N := some 56) (v := ?_) (a' := ?_) #[tt, tt, ff, ff, ff, tt, ff, ff, ff, ff, ff, ff, ff, ff, ff, ff, ff, ff, ff, ff, ff, ff, ff, ff, ff, ff, ff, ff, ff] rfl rfl (take_ofW HT_.out HW_.out (by kernel_rfl)) (fun _ _ _ h => h) (Or.inl ⟨by rfl, ?_⟩) hHeld ?_ ?_
   rotate_left
   ·rintro w' ⟨s0, s1, s2, s3, s4, s5, s6, s7, s8⟩
    go_simp
    with_reducible rfl
   rotate_left
   ·exact aP
   refine take_ (i := 3) (N := some 59) (v := ?_) (a' := ?_) #[tt, tt, ff, tt, ff, tt, ff, ff, ff, ff, ff, ff, ff, ff, ff, ff, ff, ff, ff, ff, ff, ff, ff, ff, ff, ff, ff, ff, ff] rfl rfl (take_ofW HT_.out HW_.out (by kernel_rfl)) (fun _ _ _ h => h) (Or.inl ⟨by rfl, ?_⟩) hHeld ?_ ?_
   rotate_left
   ·rintro w' ⟨s0, s1, s2, s3, s4, s5, s6, s7, s8⟩
    go_simp
    with_reducible rfl
   rotate_left
   ·exact aP
   refine one_ (i := 2) (N := some 58) #[tt, tt, tt, tt, ff, tt, ff, ff, ff, ff, ff, ff, ff, ff, ff, ff, ff, ff, ff, ff, ff, ff, ff, ff, ff, ff, ff, ff, ff] rfl rfl (one_of HT_.out (by kernel_rfl)) (by decide) (fun K hK => ?_)
   refine goes_ Tryz.func10 (by kernel_rfl) rfl #[.agg #[.int .i64 t279, .int .i64 t280, .string t281], .int .i64 a1] (by rfl) rfl rfl aO ?_
   with_reducible refine (chain_May.calls t279 t280 t281 a1 t299 _ A41.out).mono ?_
   rintro e w62 ⟨rfl, hb⟩
   refine ⟨_, rfl, ?_⟩
   replace BK277 := bb BK277 hb
   replace BK278 := bb BK278 hb
   replace BK293 := bb BK293 hb
   replace BK298 := bb BK298 hb
   replace HB := as_ (below_step bA hb)
   (try clear hb)
   (try clear hb2)
   (try clear hk)
   (try clear hi)
   refine hK.out _ _ ⟨(blk_cell BK277.out 0).trans rfl, (blk_cell BK277.out 1).trans rfl, (blk_cell BK277.out 2).trans rfl, (blk_cell BK293.out 0).trans rfl, (blk_cell BK293.out 1).trans rfl, (blk_cell BK293.out 2).trans rfl, (blk_cell BK298.out 0).trans rfl, (blk_cell BK298.out 1).trans rfl, (blk_cell BK298.out 2).trans rfl⟩ (fun hHeld => ?_)
   clear hK K
   refine norm_ (a' := ?_) ?_ ?_
   rotate_left
   ·show Act.put _ (some 58) _ = _
    simp only [Act.put, List.setIfInBounds_toArray, List.set_cons_zero, List.set_cons_succ, i64_w, i32_w]
    rfl
   refine one_ (i := 4) (N := some 60) #[tt, tt, tt, tt, tt, tt, ff, ff, ff, ff, ff, ff, ff, ff, ff, ff, ff, ff, ff, ff, ff, ff, ff, ff, ff, ff, ff, ff, ff] rfl rfl (one_of HT_.out (by kernel_rfl)) (by decide) (fun K hK => ?_)
   refine goes_ Tryz.func7 (by kernel_rfl) rfl #[.agg #[.int .i64 t279, .int .i64 t280, .string t281]] (by rfl) rfl rfl aO ?_
   with_reducible refine (withylaw12_Ref.calls t279 t280 t281 t300 t301 t302 _ A42.out).mono ?_
   rintro e w63 ⟨rfl, hb⟩
   refine ⟨_, rfl, ?_⟩
   replace BK277 := bb BK277 hb
   replace BK278 := bb BK278 hb
   replace BK293 := bb BK293 hb
   replace BK298 := bb BK298 hb
   replace HB := as_ (below_step bA hb)
   (try clear hb)
   (try clear hb2)
   (try clear hk)
   (try clear hi)
   refine hK.out _ _ ⟨(blk_cell BK277.out 0).trans rfl, (blk_cell BK277.out 1).trans rfl, (blk_cell BK277.out 2).trans rfl, (blk_cell BK293.out 0).trans rfl, (blk_cell BK293.out 1).trans rfl, (blk_cell BK293.out 2).trans rfl, (blk_cell BK298.out 0).trans rfl, (blk_cell BK298.out 1).trans rfl, (blk_cell BK298.out 2).trans rfl⟩ (fun hHeld => ?_)
   clear hK K
   refine norm_ (a' := ?_) ?_ ?_
   rotate_left
   ·show Act.put _ (some 60) _ = _
    simp only [Act.put, List.setIfInBounds_toArray, List.set_cons_zero, List.set_cons_succ, i64_w, i32_w]
    rfl
   refine one_ (i := 6) (N := some 62) #[tt, tt, tt, tt, tt, tt, tt, ff, ff, ff, ff, ff, ff, ff, ff, ff, ff, ff, ff, ff, ff, ff, ff, ff, ff, ff, ff, ff, ff] rfl rfl (one_of HT_.out (by kernel_rfl)) (by decide) (fun K hK => ?_)
   refine goes_ Tryz.func11 (by kernel_rfl) rfl #[.agg #[.int .i64 t300, .int .i64 t301, .string t302], .int .i64 a1] (by rfl) rfl rfl aO ?_
   with_reducible refine (withyref12_May.calls t300 t301 t302 a1 t303 _ A43.out).mono ?_
   rintro e w64 ⟨rfl, hb⟩
   refine ⟨_, rfl, ?_⟩
   replace BK277 := bb BK277 hb
   replace BK278 := bb BK278 hb
   replace BK293 := bb BK293 hb
   replace BK298 := bb BK298 hb
   replace HB := as_ (below_step bA hb)
   (try clear hb)
   (try clear hb2)
   (try clear hk)
   (try clear hi)
   refine hK.out _ _ ⟨(blk_cell BK277.out 0).trans rfl, (blk_cell BK277.out 1).trans rfl, (blk_cell BK277.out 2).trans rfl, (blk_cell BK293.out 0).trans rfl, (blk_cell BK293.out 1).trans rfl, (blk_cell BK293.out 2).trans rfl, (blk_cell BK298.out 0).trans rfl, (blk_cell BK298.out 1).trans rfl, (blk_cell BK298.out 2).trans rfl⟩ (fun hHeld => ?_)
   clear hK K
   refine norm_ (a' := ?_) ?_ ?_
   rotate_left
   ·show Act.put _ (some 62) _ = _
    simp only [Act.put, List.setIfInBounds_toArray, List.set_cons_zero, List.set_cons_succ, i64_w, i32_w]
    rfl
   refine pure_ (i := 7) (N := some 63) (v := ?_) (a' := ?_) #[tt, tt, tt, tt, tt, tt, tt, tt, ff, ff, ff, ff, ff, ff, ff, ff, ff, ff, ff, ff, ff, ff, ff, ff, ff, ff, ff, ff, ff] rfl rfl (any_of HT_.out (by kernel_rfl)) (fun _ _ _ h => h) (Or.inl ⟨by rfl, ?_⟩) ?_ ?_
   rotate_left
   ·intro w'
    go_simp
    with_reducible rfl
   rotate_left
   ·exact aP
   refine pure_ (i := 8) (N := some 64) (v := ?_) (a' := ?_) #[tt, tt, tt, tt, tt, tt, tt, tt, tt, ff, ff, ff, ff, ff, ff, ff, ff, ff, ff, ff, ff, ff, ff, ff, ff, ff, ff, ff, ff] rfl rfl (any_of HT_.out (by kernel_rfl)) (fun _ _ _ h => h) (Or.inl ⟨by rfl, ?_⟩) ?_ ?_
   rotate_left
   ·intro w'
    go_simp
    with_reducible rfl
   rotate_left
   ·exact aP
   refine pure_ (i := 9) (N := some 65) (v := ?_) (a' := ?_) #[tt, tt, tt, tt, tt, tt, tt, tt, tt, tt, ff, ff, ff, ff, ff, ff, ff, ff, ff, ff, ff, ff, ff, ff, ff, ff, ff, ff, ff] rfl rfl (any_of HT_.out (by kernel_rfl)) (fun _ _ _ h => h) (Or.inl ⟨by rfl, ?_⟩) ?_ ?_
   rotate_left
   ·intro w'
    go_simp
    with_reducible rfl
   rotate_left
   ·exact aP
   refine pure_ (i := 10) (N := some 66) (v := ?_) (a' := ?_) #[tt, tt, tt, tt, tt, tt, tt, tt, tt, tt, tt, ff, ff, ff, ff, ff, ff, ff, ff, ff, ff, ff, ff, ff, ff, ff, ff, ff, ff] rfl rfl (any_of HT_.out (by kernel_rfl)) (fun _ _ _ h => h) (Or.inl ⟨by rfl, ?_⟩) ?_ ?_
   rotate_left
   ·intro w'
    go_simp
    with_reducible rfl
   rotate_left
   ·exact aP
   refine pure_ (i := 11) (N := some 67) (v := ?_) (a' := ?_) #[tt, tt, tt, tt, tt, tt, tt, tt, tt, tt, tt, tt, ff, ff, ff, ff, ff, ff, ff, ff, ff, ff, ff, ff, ff, ff, ff, ff, ff] rfl rfl (any_of HT_.out (by kernel_rfl)) (fun _ _ _ h => h) (Or.inl ⟨by rfl, ?_⟩) ?_ ?_
   rotate_left
   ·intro w'
    go_simp
    with_reducible rfl
   rotate_left
   ·exact aP
   refine pure_ (i := 12) (N := some 68) (v := ?_) (a' := ?_) #[tt, tt, tt, tt, tt, tt, tt, tt, tt, tt, tt, tt, tt, ff, ff, ff, ff, ff, ff, ff, ff, ff, ff, ff, ff, ff, ff, ff, ff] rfl rfl (any_of HT_.out (by kernel_rfl)) (fun _ _ _ h => h) (Or.inl ⟨by rfl, ?_⟩) ?_ ?_
   rotate_left
   ·intro w'
    go_simp
    with_reducible rfl
   rotate_left
   ·exact aP
   refine pure_ (i := 13) (N := some 69) (v := ?_) (a' := ?_) #[tt, tt, tt, tt, tt, tt, tt, tt, tt, tt, tt, tt, tt, tt, ff, ff, ff, ff, ff, ff, ff, ff, ff, ff, ff, ff, ff, ff, ff] rfl rfl (any_of HT_.out (by kernel_rfl)) (fun _ _ _ h => h) (Or.inl ⟨by rfl, ?_⟩) ?_ ?_
   rotate_left
   ·intro w'
    go_simp
    with_reducible rfl
   rotate_left
   ·exact aP
   refine pure_ (i := 14) (N := some 70) (v := ?_) (a' := ?_) #[tt, tt, tt, tt, tt, tt, tt, tt, tt, tt, tt, tt, tt, tt, tt, ff, ff, ff, ff, ff, ff, ff, ff, ff, ff, ff, ff, ff, ff] rfl rfl (any_of HT_.out (by kernel_rfl)) (fun _ _ _ h => h) (Or.inl ⟨by rfl, ?_⟩) ?_ ?_
   rotate_left
   ·intro w'
    go_simp
    with_reducible rfl
   rotate_left
   ·exact aP
   refine pure_ (i := 15) (N := some 71) (v := ?_) (a' := ?_) #[tt, tt, tt, tt, tt, tt, tt, tt, tt, tt, tt, tt, tt, tt, tt, tt, ff, ff, ff, ff, ff, ff, ff, ff, ff, ff, ff, ff, ff] rfl rfl (any_of HT_.out (by kernel_rfl)) (fun _ _ _ h => h) (Or.inl ⟨by rfl, ?_⟩) ?_ ?_
   rotate_left
   ·intro w'
    go_simp
    with_reducible rfl
   rotate_left
   ·exact aP
   refine pure_ (i := 16) (N := some 72) (v := ?_) (a' := ?_) #[tt, tt, tt, tt, tt, tt, tt, tt, tt, tt, tt, tt, tt, tt, tt, tt, tt, ff, ff, ff, ff, ff, ff, ff, ff, ff, ff, ff, ff] rfl rfl (any_of HT_.out (by kernel_rfl)) (fun _ _ _ h => h) (Or.inl ⟨by rfl, ?_⟩) ?_ ?_
   rotate_left
   ·intro w'
    go_simp
    with_reducible rfl
   rotate_left
   ·exact aP
   refine pure_ (i := 17) (N := some 73) (v := ?_) (a' := ?_) #[tt, tt, tt, tt, tt, tt, tt, tt, tt, tt, tt, tt, tt, tt, tt, tt, tt, tt, ff, ff, ff, ff, ff, ff, ff, ff, ff, ff, ff] rfl rfl (any_of HT_.out (by kernel_rfl)) (fun _ _ _ h => h) (Or.inl ⟨by rfl, ?_⟩) ?_ ?_
   rotate_left
   ·intro w'
    go_simp
    with_reducible rfl
   rotate_left
   ·exact aP
   refine pure_ (i := 18) (N := some 74) (v := ?_) (a' := ?_) #[tt, tt, tt, tt, tt, tt, tt, tt, tt, tt, tt, tt, tt, tt, tt, tt, tt, tt, tt, ff, ff, ff, ff, ff, ff, ff, ff, ff, ff] rfl rfl (any_of HT_.out (by kernel_rfl)) (fun _ _ _ h => h) (Or.inl ⟨by rfl, ?_⟩) ?_ ?_
   rotate_left
   ·intro w'
    go_simp
    with_reducible rfl
   rotate_left
   ·exact aP
   refine take_ (i := 19) (N := some 75) (v := ?_) (a' := ?_) #[tt, tt, tt, tt, tt, tt, tt, tt, tt, tt, tt, tt, tt, tt, tt, tt, tt, tt, tt, tt, ff, ff, ff, ff, ff, ff, ff, ff, ff] rfl rfl (take_ofW HT_.out HW_.out (by kernel_rfl)) (fun _ _ _ h => h) (Or.inl ⟨by rfl, ?_⟩) hHeld ?_ ?_
   rotate_left
   ·rintro w' ⟨s0, s1, s2, s3, s4, s5, s6, s7, s8⟩
    go_simp
    with_reducible rfl
   rotate_left
   ·exact aP
   refine take_ (i := 21) (N := some 77) (v := ?_) (a' := ?_) #[tt, tt, tt, tt, tt, tt, tt, tt, tt, tt, tt, tt, tt, tt, tt, tt, tt, tt, tt, tt, ff, tt, ff, ff, ff, ff, ff, ff, ff] rfl rfl (take_ofW HT_.out HW_.out (by kernel_rfl)) (fun _ _ _ h => h) (Or.inl ⟨by rfl, ?_⟩) hHeld ?_ ?_
   rotate_left
   ·rintro w' ⟨s0, s1, s2, s3, s4, s5, s6, s7, s8⟩
    go_simp
    with_reducible rfl
   rotate_left
   ·exact aP
   refine one_ (i := 20) (N := some 76) #[tt, tt, tt, tt, tt, tt, tt, tt, tt, tt, tt, tt, tt, tt, tt, tt, tt, tt, tt, tt, tt, tt, ff, ff, ff, ff, ff, ff, ff] rfl rfl (one_of HT_.out (by kernel_rfl)) (by decide) (fun K hK => ?_)
   refine goes_ Tryz.func7 (by kernel_rfl) rfl #[.agg #[.int .i64 t289, .int .i64 t290, .string t291]] (by rfl) rfl rfl aO ?_
   with_reducible refine (withylaw12_Ref.calls t289 t290 t291 t304 t305 t306 _ A52.out).mono ?_
   rintro e w65 ⟨rfl, hb⟩
   refine ⟨_, rfl, ?_⟩
   replace BK277 := bb BK277 hb
   replace BK278 := bb BK278 hb
   replace BK293 := bb BK293 hb
   replace BK298 := bb BK298 hb
   replace HB := as_ (below_step bA hb)
   (try clear hb)
   (try clear hb2)
   (try clear hk)
   (try clear hi)
   refine hK.out _ _ ⟨(blk_cell BK277.out 0).trans rfl, (blk_cell BK277.out 1).trans rfl, (blk_cell BK277.out 2).trans rfl, (blk_cell BK293.out 0).trans rfl, (blk_cell BK293.out 1).trans rfl, (blk_cell BK293.out 2).trans rfl, (blk_cell BK298.out 0).trans rfl, (blk_cell BK298.out 1).trans rfl, (blk_cell BK298.out 2).trans rfl⟩ (fun hHeld => ?_)
   clear hK K
   refine norm_ (a' := ?_) ?_ ?_
   rotate_left
   ·show Act.put _ (some 76) _ = _
    simp only [Act.put, List.setIfInBounds_toArray, List.set_cons_zero, List.set_cons_succ, i64_w, i32_w]
    rfl
   refine pure_ (i := 22) (N := some 78) (v := ?_) (a' := ?_) #[tt, tt, tt, tt, tt, tt, tt, tt, tt, tt, tt, tt, tt, tt, tt, tt, tt, tt, tt, tt, tt, tt, tt, ff, ff, ff, ff, ff, ff] rfl rfl (any_of HT_.out (by kernel_rfl)) (fun _ _ _ h => h) (Or.inl ⟨by rfl, ?_⟩) ?_ ?_
   rotate_left
   ·intro w'
    go_simp
    with_reducible rfl
   rotate_left
   ·exact aP
   refine pure_ (i := 23) (N := some 79) (v := ?_) (a' := ?_) #[tt, tt, tt, tt, tt, tt, tt, tt, tt, tt, tt, tt, tt, tt, tt, tt, tt, tt, tt, tt, tt, tt, tt, tt, ff, ff, ff, ff, ff] rfl rfl (any_of HT_.out (by kernel_rfl)) (fun _ _ _ h => h) (Or.inl ⟨by rfl, ?_⟩) ?_ ?_
   rotate_left
   ·intro w'
    go_simp
    with_reducible rfl
   rotate_left
   ·exact aP
   refine pure_ (i := 24) (N := some 80) (v := ?_) (a' := ?_) #[tt, tt, tt, tt, tt, tt, tt, tt, tt, tt, tt, tt, tt, tt, tt, tt, tt, tt, tt, tt, tt, tt, tt, tt, tt, ff, ff, ff, ff] rfl rfl (any_of HT_.out (by kernel_rfl)) (fun _ _ _ h => h) (Or.inl ⟨by rfl, ?_⟩) ?_ ?_
   rotate_left
   ·intro w'
    go_simp
    with_reducible rfl
   rotate_left
   ·exact aP
   refine pure_ (i := 25) (N := some 81) (v := ?_) (a' := ?_) #[tt, tt, tt, tt, tt, tt, tt, tt, tt, tt, tt, tt, tt, tt, tt, tt, tt, tt, tt, tt, tt, tt, tt, tt, tt, tt, ff, ff, ff] rfl rfl (any_of HT_.out (by kernel_rfl)) (fun _ _ _ h => h) (Or.inl ⟨by rfl, ?_⟩) ?_ ?_
   rotate_left
   ·intro w'
    go_simp
    with_reducible rfl
   rotate_left
   ·exact aP
   refine pure_ (i := 26) (N := some 82) (v := ?_) (a' := ?_) #[tt, tt, tt, tt, tt, tt, tt, tt, tt, tt, tt, tt, tt, tt, tt, tt, tt, tt, tt, tt, tt, tt, tt, tt, tt, tt, tt, ff, ff] rfl rfl (any_of HT_.out (by kernel_rfl)) (fun _ _ _ h => h) (Or.inl ⟨by rfl, ?_⟩) ?_ ?_
   rotate_left
   ·intro w'
    go_simp
    with_reducible rfl
   rotate_left
   ·exact aP
   refine pure_ (i := 27) (N := some 83) (v := ?_) (a' := ?_) #[tt, tt, tt, tt, tt, tt, tt, tt, tt, tt, tt, tt, tt, tt, tt, tt, tt, tt, tt, tt, tt, tt, tt, tt, tt, tt, tt, tt, ff] rfl rfl (any_of HT_.out (by kernel_rfl)) (fun _ _ _ h => h) (Or.inl ⟨by rfl, ?_⟩) ?_ ?_
   rotate_left
   ·intro w'
    go_simp
    with_reducible rfl
   rotate_left
   ·exact aP
   refine pure_ (i := 28) (N := some 84) (v := ?_) (a' := ?_) #[tt, tt, tt, tt, tt, tt, tt, tt, tt, tt, tt, tt, tt, tt, tt, tt, tt, tt, tt, tt, tt, tt, tt, tt, tt, tt, tt, tt, tt] rfl rfl (any_of HT_.out (by kernel_rfl)) (fun _ _ _ h => h) (Or.inl ⟨by rfl, ?_⟩) ?_ ?_
   rotate_left
   ·intro w'
    go_simp
    with_reducible rfl
   rotate_left
   ·exact aP
   refine done_ (done_of HT_.out (by kernel_rfl)) ?_
   try go_wp2
   go_meet
   case rel => exact ⟨_, ((t292 != t297)), (by first | rfl | (simp; done) | (simp [*]; done)), H', ⟨by first | omega | exact Nat.le_refl _⟩, ⟨by refine bx ?_; exact BK277.out⟩, ⟨by refine bx ?_; exact BK278.out⟩, ⟨by refine bx ?_; exact BK293.out⟩, ⟨by refine bx ?_; exact BK298.out⟩, ⟨by repeat (first | (with_reducible first | exact HB.out | apply below_alloc | apply pw_below_drewN | apply below_drew1 | refine below_set ?_ GE277.out | refine below_set ?_ GE278.out | refine below_set ?_ GE293.out | refine below_set ?_ GE298.out) | exact HB.out)⟩⟩
 case rest =>
  clear HC18
  try clear c1
  try clear p2
  try clear c5
  try clear c7
  try clear c10
  try clear c11
  try clear c50
  try clear c50b0
  try clear c50b1
  obtain ⟨kq, x84_17, rfl, HA, HJ17, BK277, BK278, BK293, BK298, HB⟩ := hcut
  cases kq with
  | zero => exact absurd HA.out (by simp [withylaw12_ChainTells.j0])
  | succ kj17 =>
   have H := HA.out
   clear HA
   simp only [withylaw12_ChainTells.j0] at H
   by_cases c76 : x84_17 = true
   ·subst c76
    have H1 : (none) = some r := by rw [if_pos rfl] at H; exact H
    clear H
    have H := H1
    clear H1
    exact absurd H (by simp)
   replace c76 := Bool.eq_false_iff.mpr c76
   subst c76
   have H1 : ((withyref06_Size.f a1).bind fun t307 => (if t307 = true then ((chain_Parts.f kj17 js12 a1).bind fun t309 => ((withyref12_Parts.f kj17 js12 a1).bind fun t312 => ((withyref01_Words.f kj17 t309 t312).bind fun t315 => (if t315 = true then ((chain_Pages.f a2_2 a1).bind fun t316 => ((withyref12_Pages.f a2_2 a1).bind fun t317 => (if t316 = t317 then ((withylaw12_fixed.f kj17).bind fun t318 => (some t318)) else (none)))) else (none))))) else ((withylaw12_fixed.f kj17).bind fun t308 => (some t308)))) = some r := by rw [if_neg (show ¬ (false = true) by decide)] at H; exact H
   clear H
   have H := H1
   clear H1
   replace H := bM H
   obtain ⟨t307, A770, H⟩ := H
   replace H : (if t307 = true then ((chain_Parts.f kj17 js12 a1).bind fun t309 => ((withyref12_Parts.f kj17 js12 a1).bind fun t312 => ((withyref01_Words.f kj17 t309 t312).bind fun t315 => (if t315 = true then ((chain_Pages.f a2_2 a1).bind fun t316 => ((withyref12_Pages.f a2_2 a1).bind fun t317 => (if t316 = t317 then ((withylaw12_fixed.f kj17).bind fun t318 => (some t318)) else (none)))) else (none))))) else ((withylaw12_fixed.f kj17).bind fun t308 => (some t308))) = some r := H
   have A77 := Aside0.mk A770
   clear A770
   by_cases c78 : t307 = true
   rotate_left
   ·replace c78 := Bool.eq_false_iff.mpr c78
    subst c78
    have H1 : ((withylaw12_fixed.f kj17).bind fun t308 => (some t308)) = some r := by rw [if_neg (show ¬ (false = true) by decide)] at H; exact H
    clear H
    have H := H1
    clear H1
    replace H := bM H
    obtain ⟨t308, A940, H⟩ := H
    replace H : (some t308) = some r := H
    have A94 := Aside0.mk A940
    clear A940
    obtain rfl := Option.some.inj H
    go_wp2_with (first | ((with_reducible refine gate_callee (f := 12) rfl ?_); refine goesL_ (some 86) rfl rfl Tryz.func12 (by kernel_rfl) rfl #[.int .i64 a1] rfl aO ?_; (with_reducible refine (withyref06_Size.calls a1 false _ A77.out).mono ?_); rintro e w' ⟨rfl, ⟨nd, rfl⟩⟩; refine ⟨_, rfl, ?_⟩) | ((with_reducible refine gate_callee (f := 13) rfl ?_); refine goesL_ (some 88) rfl rfl Tryz.func13 (by kernel_rfl) rfl #[] rfl aO ?_; (with_reducible refine (withylaw12_fixed.calls kj17  t308 _ A94.out).mono ?_); rintro e w95 ⟨rfl, hb⟩; refine ⟨_, rfl, ?_⟩; replace BK277 := bb BK277 hb; replace BK278 := bb BK278 hb; replace BK293 := bb BK293 hb; replace BK298 := bb BK298 hb; replace HB := as_ (below_step bA hb); (try clear hb); (try clear hb2); (try clear hk); (try clear hi)))
    go_ret
    exact ⟨by first | rfl | (simp [errW_none, errW_some] <;> rfl) | (simp only [← hji5, ← hjs8, ← hji9, ← hjs12]; first | rfl | (simp [errW_none, errW_some] <;> rfl)) | (simp [*, errW_none, errW_some] <;> rfl), by repeat (first | (with_reducible first | exact HB.out | apply below_alloc | apply pw_below_drewN | apply below_drew1 | refine below_set ?_ GE277.out | refine below_set ?_ GE278.out | refine below_set ?_ GE293.out | refine below_set ?_ GE298.out) | exact HB.out)⟩
   subst c78
   have H1 : ((chain_Parts.f kj17 js12 a1).bind fun t309 => ((withyref12_Parts.f kj17 js12 a1).bind fun t312 => ((withyref01_Words.f kj17 t309 t312).bind fun t315 => (if t315 = true then ((chain_Pages.f a2_2 a1).bind fun t316 => ((withyref12_Pages.f a2_2 a1).bind fun t317 => (if t316 = t317 then ((withylaw12_fixed.f kj17).bind fun t318 => (some t318)) else (none)))) else (none))))) = some r := by rw [if_pos rfl] at H; exact H
   clear H
   have H := H1
   clear H1
   replace H := bM H
   obtain ⟨t309, A790, H⟩ := H
   replace H : ((withyref12_Parts.f kj17 js12 a1).bind fun t312 => ((withyref01_Words.f kj17 t309 t312).bind fun t315 => (if t315 = true then ((chain_Pages.f a2_2 a1).bind fun t316 => ((withyref12_Pages.f a2_2 a1).bind fun t317 => (if t316 = t317 then ((withylaw12_fixed.f kj17).bind fun t318 => (some t318)) else (none)))) else (none)))) = some r := H
   have A79 := Aside0.mk A790
   clear A790
   replace H := bM H
   obtain ⟨t312, A800, H⟩ := H
   replace H : ((withyref01_Words.f kj17 t309 t312).bind fun t315 => (if t315 = true then ((chain_Pages.f a2_2 a1).bind fun t316 => ((withyref12_Pages.f a2_2 a1).bind fun t317 => (if t316 = t317 then ((withylaw12_fixed.f kj17).bind fun t318 => (some t318)) else (none)))) else (none))) = some r := H
   have A80 := Aside0.mk A800
   clear A800
   replace H := bM H
   obtain ⟨t315, A810, H⟩ := H
   replace H : (if t315 = true then ((chain_Pages.f a2_2 a1).bind fun t316 => ((withyref12_Pages.f a2_2 a1).bind fun t317 => (if t316 = t317 then ((withylaw12_fixed.f kj17).bind fun t318 => (some t318)) else (none)))) else (none)) = some r := H
   have A81 := Aside0.mk A810
   clear A810
   by_cases c82 : t315 = true
   rotate_left
   ·replace c82 := Bool.eq_false_iff.mpr c82
    subst c82
    have H1 : (none) = some r := by rw [if_neg (show ¬ (false = true) by decide)] at H; exact H
    clear H
    have H := H1
    clear H1
    exact absurd H (by simp)
   subst c82
   have H1 : ((chain_Pages.f a2_2 a1).bind fun t316 => ((withyref12_Pages.f a2_2 a1).bind fun t317 => (if t316 = t317 then ((withylaw12_fixed.f kj17).bind fun t318 => (some t318)) else (none)))) = some r := by rw [if_pos rfl] at H; exact H
   clear H
   have H := H1
   clear H1
   replace H := bM H
   obtain ⟨t316, A830, H⟩ := H
   replace H : ((withyref12_Pages.f a2_2 a1).bind fun t317 => (if t316 = t317 then ((withylaw12_fixed.f kj17).bind fun t318 => (some t318)) else (none))) = some r := H
   have A83 := Aside0.mk A830
   clear A830
   replace H := bM H
   obtain ⟨t317, A840, H⟩ := H
   replace H : (if t316 = t317 then ((withylaw12_fixed.f kj17).bind fun t318 => (some t318)) else (none)) = some r := H
   have A84 := Aside0.mk A840
   clear A840
   by_cases c85 : t316 = t317
   rotate_left
   ·rw [if_neg c85] at H
    exact absurd H (by simp)
   rw [if_pos c85] at H
   have c85b0 : (t316 == t317) = true := beq_iff_eq.mpr c85
   have c85b1 : (t316 != t317) = false := bne_eq_false_iff_eq.mpr c85
   clear c85
   replace H := bM H
   obtain ⟨t318, A860, H⟩ := H
   replace H : (some t318) = some r := H
   have A86 := Aside0.mk A860
   clear A860
   obtain rfl := Option.some.inj H
   try go_wp2_with (first | ((with_reducible refine gate_callee (f := 12) rfl ?_); refine goesL_ (some 86) rfl rfl Tryz.func12 (by kernel_rfl) rfl #[.int .i64 a1] rfl aO ?_; (with_reducible refine (withyref06_Size.calls a1 true _ A77.out).mono ?_); rintro e w' ⟨rfl, ⟨nd, rfl⟩⟩; refine ⟨_, rfl, ?_⟩))
   (try (rw [drewN_self wc]; generalize hq_ : World.drewN wc _ = wc; have n0_ : Aside0 (wc.heap[gb277]? = some (.cells #[.int .i64 t279, .int .i64 t280, .string t281] 23 (0, 0))) := ⟨by rw [← hq_]; exact (bk BK277)⟩; have n1_ : Aside0 (wc.heap[gb278]? = some (.cells #[.string a2_0, .string a2_1, .int .i64 a2_2] 25 (0, 0))) := ⟨by rw [← hq_]; exact (bk BK278)⟩; have n2_ : Aside0 (wc.heap[gb293]? = some (.cells #[.int .i64 t289, .int .i64 t290, .string t291] 23 (0, 0))) := ⟨by rw [← hq_]; exact (bk BK293)⟩; have n3_ : Aside0 (wc.heap[gb298]? = some (.cells #[.int .i64 t294, .int .i64 t295, .string t296] 31 (0, 0))) := ⟨by rw [← hq_]; exact (bk BK298)⟩; have n4_ : Aside0 (Below w.heap.size w wc) := ⟨by rw [← hq_]; exact bA⟩; clear BK277 BK278 BK293 BK298 HB hq_; have BK277 := n0_; have BK278 := n1_; have BK293 := n2_; have BK298 := n3_; have HB := n4_; clear n0_ n1_ n2_ n3_ n4_))
   replace BK277 := as_ (blk_drew BK277.out)
   replace BK278 := as_ (blk_drew BK278.out)
   replace BK293 := as_ (blk_drew BK293.out)
   replace BK298 := as_ (blk_drew BK298.out)
   replace HB := as_ (below_drew1 HB.out)
   refine start_ (n := 22) (S := fun w' => w'.cell? ⟨gb278, 0, none⟩ = some (.string a2_0) ∧ w'.cell? ⟨gb278, 1, none⟩ = some (.string a2_1) ∧ w'.cell? ⟨gb278, 2, none⟩ = some (.int .i64 a2_2)) (ds := []) #[ff, ff, ff, ff, ff, ff, ff, ff, ff, ff, ff, ff, ff, ff, ff, ff, ff, ff, ff, ff, ff, ff] (by kernel_rfl) rfl rfl ⟨(blk_cell BK278.out 0).trans rfl, (blk_cell BK278.out 1).trans rfl, (blk_cell BK278.out 2).trans rfl⟩ (fun hHeld => ?_); refine with_tabW withylaw12_ChainTells.tab12 withylaw12_ChainTells.bits12 (fun HT_ HW_ => ?_)
   generalize wc.drew = w87 at BK277 BK278 BK293 BK298 HB hHeld ⊢
   refine pure_ (i := 0) (N := some 89) (v := ?_) (a' := ?_) #[tt, ff, ff, ff, ff, ff, ff, ff, ff, ff, ff, ff, ff, ff, ff, ff, ff, ff, ff, ff, ff, ff] rfl rfl (any_of HT_.out (by kernel_rfl)) (fun _ _ _ h => h) (Or.inl ⟨by rfl, ?_⟩) ?_ ?_
   rotate_left
   ·intro w'
    go_simp
    with_reducible rfl
   rotate_left
   ·exact aP
   refine pure_ (i := 1) (N := some 90) (v := ?_) (a' := ?_) #[tt, tt, ff, ff, ff, ff, ff, ff, ff, ff, ff, ff, ff, ff, ff, ff, ff, ff, ff, ff, ff, ff] rfl rfl (any_of HT_.out (by kernel_rfl)) (fun _ _ _ h => h) (Or.inl ⟨by rfl, ?_⟩) ?_ ?_
   rotate_left
   ·intro w'
    go_simp
    with_reducible rfl
   rotate_left
   ·exact aP
   refine pure_ (i := 3) (N := some 92) (v := ?_) (a' := ?_) #[tt, tt, ff, tt, ff, ff, ff, ff, ff, ff, ff, ff, ff, ff, ff, ff, ff, ff, ff, ff, ff, ff] rfl rfl (any_of HT_.out (by kernel_rfl)) (fun _ _ _ h => h) (Or.inl ⟨by rfl, ?_⟩) ?_ ?_
   rotate_left
   ·intro w'
    go_simp
    with_reducible rfl
   rotate_left
   ·exact aP
   refine pure_ (i := 4) (N := some 93) (v := ?_) (a' := ?_) #[tt, tt, ff, tt, tt, ff, ff, ff, ff, ff, ff, ff, ff, ff, ff, ff, ff, ff, ff, ff, ff, ff] rfl rfl (any_of HT_.out (by kernel_rfl)) (fun _ _ _ h => h) (Or.inl ⟨by rfl, ?_⟩) ?_ ?_
   rotate_left
   ·intro w'
    go_simp
    with_reducible rfl
   rotate_left
   ·exact aP
   refine one_ (i := 2) (N := some 91) #[tt, tt, tt, tt, tt, ff, ff, ff, ff, ff, ff, ff, ff, ff, ff, ff, ff, ff, ff, ff, ff, ff] rfl rfl (one_of HT_.out (by kernel_rfl)) (by decide) (fun K hK => ?_)
   refine goes_ Tryz.func15 (by kernel_rfl) rfl #[.string js12, .int .i64 a1] (by rfl) rfl rfl aO ?_
   with_reducible refine (chain_Parts.calls kj17 js12 a1 t309 _ A79.out).mono ?_
   rintro e w88 ⟨v310, rfl, ho0, hb⟩
   refine ⟨_, rfl, ?_⟩
   have HO311 := as_ (Kd.R_lower ho0 (below_size bA))
   replace BK277 := bb BK277 hb
   replace BK278 := bb BK278 hb
   replace BK293 := bb BK293 hb
   replace BK298 := bb BK298 hb
   replace HB := as_ (below_step bA hb)
   (try clear hb)
   (try clear hb2)
   (try clear hk)
   (try clear hi)
   (try clear ho0)
   refine hK.out _ _ ⟨(blk_cell BK278.out 0).trans rfl, (blk_cell BK278.out 1).trans rfl, (blk_cell BK278.out 2).trans rfl⟩ (fun hHeld => ?_)
   clear hK K
   refine norm_ (a' := ?_) ?_ ?_
   rotate_left
   ·show Act.put _ (some 91) _ = _
    simp only [Act.put, List.setIfInBounds_toArray, List.set_cons_zero, List.set_cons_succ, i64_w, i32_w]
    rfl
   refine one_ (i := 5) (N := some 94) #[tt, tt, tt, tt, tt, tt, ff, ff, ff, ff, ff, ff, ff, ff, ff, ff, ff, ff, ff, ff, ff, ff] rfl rfl (one_of HT_.out (by kernel_rfl)) (by decide) (fun K hK => ?_)
   refine goes_ Tryz.func16 (by kernel_rfl) rfl #[.string js12, .int .i64 a1] (by rfl) rfl rfl aO ?_
   with_reducible refine (withyref12_Parts.calls kj17 js12 a1 t312 _ A80.out).mono ?_
   rintro e w89 ⟨v313, rfl, ho0, hb⟩
   refine ⟨_, rfl, ?_⟩
   have HO314 := as_ (Kd.R_lower (Kd.R_new' ho0 (Kd.R_lt (by (with_reducible repeat (first | apply Kd.R_alloc | apply Kd.R_drewN | apply Kd.R_drew)); exact HO311.out))) (below_size bA))
   replace HO311 := as_ (Kd.R_elder' (by (with_reducible repeat (first | apply Kd.R_alloc | apply Kd.R_drewN | apply Kd.R_drew)); exact HO311.out) (Kd.R_base ho0) hb)
   replace BK277 := bb BK277 hb
   replace BK278 := bb BK278 hb
   replace BK293 := bb BK293 hb
   replace BK298 := bb BK298 hb
   replace HB := as_ (below_step bA hb)
   (try clear hb)
   (try clear hb2)
   (try clear hk)
   (try clear hi)
   (try clear ho0)
   obtain ⟨Ao90, co90, eo90⟩ := Kd.R_slice HO311.out
   (first | subst eo90 | (injection eo90 with f1_ f2_ f3_; have f4_ := f1_.symm; have f5_ := f3_.symm; clear f1_ f2_ f3_; subst f4_; subst f5_))
   obtain ⟨Ao91, co91, eo91⟩ := Kd.R_slice HO314.out
   (first | subst eo91 | (injection eo91 with f1_ f2_ f3_; have f4_ := f1_.symm; have f5_ := f3_.symm; clear f1_ f2_ f3_; subst f4_; subst f5_))
   refine hK.out _ _ ⟨(blk_cell BK278.out 0).trans rfl, (blk_cell BK278.out 1).trans rfl, (blk_cell BK278.out 2).trans rfl⟩ (fun hHeld => ?_)
   clear hK K
   refine norm_ (a' := ?_) ?_ ?_
   rotate_left
   ·show Act.put _ (some 94) _ = _
    simp only [Act.put, List.setIfInBounds_toArray, List.set_cons_zero, List.set_cons_succ, i64_w, i32_w]
    rfl
   refine one_ (i := 6) (N := some 95) #[tt, tt, tt, tt, tt, tt, tt, ff, ff, ff, ff, ff, ff, ff, ff, ff, ff, ff, ff, ff, ff, ff] rfl rfl (one_of HT_.out (by kernel_rfl)) (by decide) (fun K hK => ?_)
   refine goes_ Tryz.func14 (by kernel_rfl) rfl #[.slice Ao90 t309.length co90, .slice Ao91 t312.length co91] (by rfl) rfl rfl aO ?_
   with_reducible refine (withyref01_Words.calls kj17 _ _ t309 _ _ t312 true _ ?side1 ?side2 ?side3 ?side4 A81.out).mono ?_
   (case side1 => repeat (first | exact (Kd.R_reads' HO311.out).2.2 | (with_reducible refine Kd.C_alloc ?_ _) | (with_reducible refine Kd.C_drewN ?_ _) | (with_reducible refine Kd.C_drew ?_)))
   (case side2 => exact (Kd.R_reads' HO311.out).2.1)
   (case side3 => repeat (first | exact (Kd.R_reads' HO314.out).2.2 | (with_reducible refine Kd.C_alloc ?_ _) | (with_reducible refine Kd.C_drewN ?_ _) | (with_reducible refine Kd.C_drew ?_)))
   (case side4 => exact (Kd.R_reads' HO314.out).2.1)
   rintro e w' ⟨rfl, ⟨nd, rfl⟩⟩
   refine ⟨_, rfl, ?_⟩
   refine hK.out _ _ ⟨(blk_cell BK278.out 0).trans rfl, (blk_cell BK278.out 1).trans rfl, (blk_cell BK278.out 2).trans rfl⟩ (fun hHeld => ?_)
   clear hK K
   refine norm_ (a' := ?_) ?_ ?_
   rotate_left
   ·show Act.put _ (some 95) _ = _
    simp only [Act.put, List.setIfInBounds_toArray, List.set_cons_zero, List.set_cons_succ, i64_w, i32_w]
    rfl
   refine pure_ (i := 7) (N := some 96) (v := ?_) (a' := ?_) #[tt, tt, tt, tt, tt, tt, tt, tt, ff, ff, ff, ff, ff, ff, ff, ff, ff, ff, ff, ff, ff, ff] rfl rfl (any_of HT_.out (by kernel_rfl)) (fun _ _ _ h => h) (Or.inl ⟨by rfl, ?_⟩) ?_ ?_
   rotate_left
   ·intro w'
    go_simp
    with_reducible rfl
   rotate_left
   ·exact aP
   refine pure_ (i := 8) (N := some 97) (v := ?_) (a' := ?_) #[tt, tt, tt, tt, tt, tt, tt, tt, tt, ff, ff, ff, ff, ff, ff, ff, ff, ff, ff, ff, ff, ff] rfl rfl (any_of HT_.out (by kernel_rfl)) (fun _ _ _ h => h) (Or.inl ⟨by rfl, ?_⟩) ?_ ?_
   rotate_left
   ·intro w'
    go_simp
    with_reducible rfl
   rotate_left
   ·exact aP
   refine pure_ (i := 10) (N := some 99) (v := ?_) (a' := ?_) #[tt, tt, tt, tt, tt, tt, tt, tt, tt, ff, tt, ff, ff, ff, ff, ff, ff, ff, ff, ff, ff, ff] rfl rfl (any_of HT_.out (by kernel_rfl)) (fun _ _ _ h => h) (Or.inl ⟨by rfl, ?_⟩) ?_ ?_
   rotate_left
   ·intro w'
    go_simp
    with_reducible rfl
   rotate_left
   ·exact aP
   refine pure_ (i := 12) (N := some 101) (v := ?_) (a' := ?_) #[tt, tt, tt, tt, tt, tt, tt, tt, tt, ff, tt, ff, tt, ff, ff, ff, ff, ff, ff, ff, ff, ff] rfl rfl (any_of HT_.out (by kernel_rfl)) (fun _ _ _ h => h) (Or.inl ⟨by rfl, ?_⟩) ?_ ?_
   rotate_left
   ·intro w'
    go_simp
    with_reducible rfl
   rotate_left
   ·exact aP
   refine pure_ (i := 14) (N := some 103) (v := ?_) (a' := ?_) #[tt, tt, tt, tt, tt, tt, tt, tt, tt, ff, tt, ff, tt, ff, tt, ff, ff, ff, ff, ff, ff, ff] rfl rfl (any_of HT_.out (by kernel_rfl)) (fun _ _ _ h => h) (Or.inl ⟨by rfl, ?_⟩) ?_ ?_
   rotate_left
   ·intro w'
    go_simp
    with_reducible rfl
   rotate_left
   ·exact aP
   refine take_ (i := 9) (N := some 98) (v := ?_) (a' := ?_) #[tt, tt, tt, tt, tt, tt, tt, tt, tt, tt, tt, ff, tt, ff, tt, ff, ff, ff, ff, ff, ff, ff] rfl rfl (take_ofW HT_.out HW_.out (by kernel_rfl)) (fun _ _ _ h => h) (Or.inl ⟨by rfl, ?_⟩) hHeld ?_ ?_
   rotate_left
   ·rintro w' ⟨s0, s1, s2⟩
    go_simp
    with_reducible rfl
   rotate_left
   ·exact aP
   refine take_ (i := 13) (N := some 102) (v := ?_) (a' := ?_) #[tt, tt, tt, tt, tt, tt, tt, tt, tt, tt, tt, ff, tt, tt, tt, ff, ff, ff, ff, ff, ff, ff] rfl rfl (take_ofW HT_.out HW_.out (by kernel_rfl)) (fun _ _ _ h => h) (Or.inl ⟨by rfl, ?_⟩) hHeld ?_ ?_
   rotate_left
   ·rintro w' ⟨s0, s1, s2⟩
    go_simp
    with_reducible rfl
   rotate_left
   ·exact aP
   refine one_ (i := 11) (N := some 100) #[tt, tt, tt, tt, tt, tt, tt, tt, tt, tt, tt, tt, tt, tt, tt, ff, ff, ff, ff, ff, ff, ff] rfl rfl (one_of HT_.out (by kernel_rfl)) (by decide) (fun K hK => ?_)
   refine goes_ Tryz.func17 (by kernel_rfl) rfl #[.int .i64 a2_2, .int .i64 a1] (by rfl) rfl rfl aO ?_
   with_reducible refine (chain_Pages.calls a2_2 a1 t316 _ A83.out).mono ?_
   rintro e w92 ⟨rfl, hb⟩
   refine ⟨_, rfl, ?_⟩
   replace HO311 := as_ (Kd.R_below (by (with_reducible repeat (first | apply Kd.R_alloc | apply Kd.R_drewN | apply Kd.R_drew)); exact HO311.out) hb)
   replace HO314 := as_ (Kd.R_below (by (with_reducible repeat (first | apply Kd.R_alloc | apply Kd.R_drewN | apply Kd.R_drew)); exact HO314.out) hb)
   replace BK277 := bb BK277 hb
   replace BK278 := bb BK278 hb
   replace BK293 := bb BK293 hb
   replace BK298 := bb BK298 hb
   replace HB := as_ (below_step bA hb)
   (try clear hb)
   (try clear hb2)
   (try clear hk)
   (try clear hi)
   refine hK.out _ _ ⟨(blk_cell BK278.out 0).trans rfl, (blk_cell BK278.out 1).trans rfl, (blk_cell BK278.out 2).trans rfl⟩ (fun hHeld => ?_)
   clear hK K
   refine norm_ (a' := ?_) ?_ ?_
   rotate_left
   ·show Act.put _ (some 100) _ = _
    simp only [Act.put, List.setIfInBounds_toArray, List.set_cons_zero, List.set_cons_succ, i64_w, i32_w]
    rfl
   refine one_ (i := 15) (N := some 104) #[tt, tt, tt, tt, tt, tt, tt, tt, tt, tt, tt, tt, tt, tt, tt, tt, ff, ff, ff, ff, ff, ff] rfl rfl (one_of HT_.out (by kernel_rfl)) (by decide) (fun K hK => ?_)
   refine goes_ Tryz.func18 (by kernel_rfl) rfl #[.int .i64 a2_2, .int .i64 a1] (by rfl) rfl rfl aO ?_
   with_reducible refine (withyref12_Pages.calls a2_2 a1 t317 _ A84.out).mono ?_
   rintro e w' ⟨rfl, ⟨nd, rfl⟩⟩
   refine ⟨_, rfl, ?_⟩
   refine hK.out _ _ ⟨(blk_cell BK278.out 0).trans rfl, (blk_cell BK278.out 1).trans rfl, (blk_cell BK278.out 2).trans rfl⟩ (fun hHeld => ?_)
   clear hK K
   refine norm_ (a' := ?_) ?_ ?_
   rotate_left
   ·show Act.put _ (some 104) _ = _
    simp only [Act.put, List.setIfInBounds_toArray, List.set_cons_zero, List.set_cons_succ, i64_w, i32_w]
    rfl
   refine pure_ (i := 16) (N := some 105) (v := ?_) (a' := ?_) #[tt, tt, tt, tt, tt, tt, tt, tt, tt, tt, tt, tt, tt, tt, tt, tt, tt, ff, ff, ff, ff, ff] rfl rfl (any_of HT_.out (by kernel_rfl)) (fun _ _ _ h => h) (Or.inl ⟨by rfl, ?_⟩) ?_ ?_
   rotate_left
   ·intro w'
    go_simp
    with_reducible rfl
   rotate_left
   ·exact aP
   refine pure_ (i := 17) (N := some 106) (v := ?_) (a' := ?_) #[tt, tt, tt, tt, tt, tt, tt, tt, tt, tt, tt, tt, tt, tt, tt, tt, tt, tt, ff, ff, ff, ff] rfl rfl (any_of HT_.out (by kernel_rfl)) (fun _ _ _ h => h) (Or.inl ⟨by rfl, ?_⟩) ?_ ?_
   rotate_left
   ·intro w'
    go_simp
    with_reducible rfl
   rotate_left
   ·exact aP
   refine pure_ (i := 18) (N := some 107) (v := ?_) (a' := ?_) #[tt, tt, tt, tt, tt, tt, tt, tt, tt, tt, tt, tt, tt, tt, tt, tt, tt, tt, tt, ff, ff, ff] rfl rfl (any_of HT_.out (by kernel_rfl)) (fun _ _ _ h => h) (Or.inl ⟨by rfl, ?_⟩) ?_ ?_
   rotate_left
   ·intro w'
    go_simp
    with_reducible rfl
   rotate_left
   ·exact aP
   refine one_ (i := 19) (N := some 108) #[tt, tt, tt, tt, tt, tt, tt, tt, tt, tt, tt, tt, tt, tt, tt, tt, tt, tt, tt, tt, ff, ff] rfl rfl (one_of HT_.out (by kernel_rfl)) (by decide) (fun K hK => ?_)
   refine goes_ Tryz.func13 (by kernel_rfl) rfl #[] (by rfl) rfl rfl aO ?_
   with_reducible refine (withylaw12_fixed.calls kj17  t318 _ A86.out).mono ?_
   rintro e w93 ⟨rfl, hb⟩
   refine ⟨_, rfl, ?_⟩
   replace HO311 := as_ (Kd.R_below (by (with_reducible repeat (first | apply Kd.R_alloc | apply Kd.R_drewN | apply Kd.R_drew)); exact HO311.out) hb)
   replace HO314 := as_ (Kd.R_below (by (with_reducible repeat (first | apply Kd.R_alloc | apply Kd.R_drewN | apply Kd.R_drew)); exact HO314.out) hb)
   replace BK277 := bb BK277 hb
   replace BK278 := bb BK278 hb
   replace BK293 := bb BK293 hb
   replace BK298 := bb BK298 hb
   replace HB := as_ (below_step bA hb)
   (try clear hb)
   (try clear hb2)
   (try clear hk)
   (try clear hi)
   refine hK.out _ _ ⟨(blk_cell BK278.out 0).trans rfl, (blk_cell BK278.out 1).trans rfl, (blk_cell BK278.out 2).trans rfl⟩ (fun hHeld => ?_)
   clear hK K
   refine norm_ (a' := ?_) ?_ ?_
   rotate_left
   ·show Act.put _ (some 108) _ = _
    simp only [Act.put, List.setIfInBounds_toArray, List.set_cons_zero, List.set_cons_succ, i64_w, i32_w]
    rfl
   refine pure_ (i := 20) (N := some 109) (v := ?_) (a' := ?_) #[tt, tt, tt, tt, tt, tt, tt, tt, tt, tt, tt, tt, tt, tt, tt, tt, tt, tt, tt, tt, tt, ff] rfl rfl (any_of HT_.out (by kernel_rfl)) (fun _ _ _ h => h) (Or.inl ⟨by rfl, ?_⟩) ?_ ?_
   rotate_left
   ·intro w'
    go_simp
    with_reducible rfl
   rotate_left
   ·exact aP
   refine pure_ (i := 21) (N := some 6) (v := ?_) (a' := ?_) #[tt, tt, tt, tt, tt, tt, tt, tt, tt, tt, tt, tt, tt, tt, tt, tt, tt, tt, tt, tt, tt, tt] rfl rfl (any_of HT_.out (by kernel_rfl)) (fun _ _ _ h => h) (Or.inl ⟨by rfl, ?_⟩) ?_ ?_
   rotate_left
   ·intro w'
    go_simp
    with_reducible rfl
   rotate_left
   ·exact aP
   refine done_ (done_of HT_.out (by kernel_rfl)) ?_
   try go_wp2
   go_ret
   exact ⟨by first | rfl | (simp [errW_none, errW_some] <;> rfl) | (simp only [← hji5, ← hjs8, ← hji9, ← hjs12]; first | rfl | (simp [errW_none, errW_some] <;> rfl)) | (simp [*, errW_none, errW_some] <;> rfl), by repeat (first | (with_reducible first | exact HB.out | apply below_alloc | apply pw_below_drewN | apply below_drew1 | refine below_set ?_ GE277.out | refine below_set ?_ GE278.out | refine below_set ?_ GE293.out | refine below_set ?_ GE298.out) | exact HB.out)⟩
end Go.Proofs.YtggfnlnonigkiaaGreatDoor.P
