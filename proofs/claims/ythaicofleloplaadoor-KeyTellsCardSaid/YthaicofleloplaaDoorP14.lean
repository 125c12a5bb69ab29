/- What is proved here: for functions of the Go text, a Lean function each, and that the call comes to just what it answers. Conditions: as each contract names them. Written by wip/tools/myprint.py, a driver of the print of the kit. -/
import Derived.Test.YthaicofleloplaaDoorP0
import Derived.Test.YthaicofleloplaaDoorP3
import Derived.Test.YthaicofleloplaaDoorP5
import Derived.Test.YthaicofleloplaaDoorP6
import Derived.Test.YthaicofleloplaaDoorP9
import Derived.Test.YthaicofleloplaaDoorP11
import Derived.Test.YthaicofleloplaaDoorP12
import Derived.Test.YthaicofleloplaaDoorP13
import Derived.Test.YthaicofleloplaaDoorWAbbr
namespace Go.Proofs.YthaicofleloplaaDoor.P
open Go.RowKit Go.Proofs.YthaicofleloplaaDoorW.PrintWords Go.Proofs.YthaicofleloplaaDoorW.PrintLast Go.Proofs.YthaicofleloplaaDoorW.PrintMore Go.Proofs.YthaicofleloplaaDoorW.Abbr
-- PACKED
attribute [local go_sem] max2_int min2_int max_two min_two max_three min_three max_four min_four Go.Proofs.YthaicofleloplaaDoorLaws.str_leq Go.Proofs.YthaicofleloplaaDoorLaws.str_gtr Go.Proofs.YthaicofleloplaaDoorLaws.str_geq Go.Proofs.YthaicofleloplaaDoorLaws.max2_str Go.Proofs.YthaicofleloplaaDoorLaws.min2_str   -- for this text's walks alone
set_option linter.unusedVariables false
set_option linter.unusedSimpArgs false

/-! ### withylaw04_fixed: function 21 -/
def withylaw04_fixed.f (k : Nat)  : Option (Bool) := (key_Put.f k (([(⟨0, 0, 0, (⟨#[]⟩ : ByteArray)⟩ : S51), (⟨1, 0, 1, (⟨#[]⟩ : ByteArray)⟩ : S51)] : List (S51)))).bind fun bt348 => ((key_Put.f k ([] : List (S51))).bind fun bt350 => ((key_Put.f k (([(⟨9, 0, 0, (⟨#[]⟩ : ByteArray)⟩ : S51)] : List (S51)))).bind fun bt355 => ((key_Get.f k (⟨#[16, 33, 1]⟩ : ByteArray)).bind fun bt357 => ((key_Get.f k (⟨#[1]⟩ : ByteArray)).bind fun bt361 => ((key_Get.f k (⟨#[16, 1, 16]⟩ : ByteArray)).bind fun bt365 => ((key_Get.f k (⟨#[16]⟩ : ByteArray)).bind fun bt369 => ((key_Get.f k (⟨#[5, 1]⟩ : ByteArray)).bind fun bt373 => ((key_Part.f k (⟨#[16, 33, 1]⟩ : ByteArray) 1).bind fun bt377 => ((key_Part.f k (⟨#[16, 33, 1]⟩ : ByteArray) 3).bind fun bt379 => (if bt348.1.toList = ([16, 33, 1] : List UInt8) then (if bt348.2 = 0 then (if bt350.1.toList = ([1] : List UInt8) then (if bt350.2 = 0 then (if bt355.2 = 3 then ((withylaw04_Ref.f k bt357.1).bind fun t381 => ((withyref04_Same.f k t381 (([(⟨0, 0, 0, (⟨#[]⟩ : ByteArray)⟩ : S56), (⟨1, 0, 1, (⟨#[]⟩ : ByteArray)⟩ : S56)] : List (S56)))).bind fun t387 => (if t387 = true then (if bt357.2 = 0 then (if (bt361.1.length : Int) = 0 then (if bt361.2 = 0 then (if bt365.2 = 3 then (if bt369.2 = 7 then (if bt373.2 = 3 then (if bt377.1.toList = ([16] : List UInt8) then (if bt377.2 = 0 then (if bt379.2 = 4 then (if 1 ≤ (bt357.1.length : Int) then ((key_Compare.f k bt357.1 (bt357.1.take 1)).bind fun t392 => (if t392 = 1 then ((key_Compare.f k ([] : List (S51)) bt357.1).bind fun t393 => (if t393 = (-1) then ((key_Compare.f k bt357.1 bt357.1).bind fun t394 => (some (t394 == 0))) else (none))) else (none))) else (none)) else (none)) else (none)) else (none)) else (none)) else (none)) else (none)) else (none)) else (none)) else (none)) else (none)))) else (none)) else (none)) else (none)) else (none)) else (none)))))))))))
theorem withylaw04_fixed.mono : ∀ k, LeO (withylaw04_fixed.f k ) (withylaw04_fixed.f (k + 1) ) := by
 intro  k
 unfold withylaw04_fixed.f
 repeat' first
   | (with_reducible exact key_Compare.mono _ _ _)
   | (with_reducible exact key_Get.mono _ _)
   | (with_reducible exact key_Part.mono _ _ _)
   | (with_reducible exact key_Put.mono _ _)
   | (with_reducible exact withylaw04_Ref.mono _ _)
   | (with_reducible exact withyref04_Same.mono _ _ _)
   | (with_reducible exact LeO.refl _)
   | (with_reducible exact LeO.none _)
   | (with_reducible refine LeO.ite ?_ ?_)
   | (with_reducible refine LeO.bind ?_ (fun _ => ?_))
   | exact key_Compare.mono _ _ _
   | exact key_Get.mono _ _
   | exact key_Part.mono _ _ _
   | exact key_Put.mono _ _
   | exact withylaw04_Ref.mono _ _
   | exact withyref04_Same.mono _ _ _
   | exact LeO.none _
   | refine LeO.ite ?_ ?_
   | refine LeO.bind ?_ (fun _ => ?_)
set_option maxHeartbeats 8000000 in
set_option maxRecDepth 100000 in
theorem withylaw04_fixed.calls (k : Nat)  (r : Bool) (w : World) (h : withylaw04_fixed.f k  = some r) :
  Calls Tryd.prog 21 #[] w fun e w' => e = .returned (.bool r) ∧ Below w.heap.size w w' := by
 have hu51 := Tryd.underlying51
 have hu56 := Tryd.underlying56
 have HB := as_ (Below.refl w.heap.size w)
 have H : ((key_Put.f k (([(⟨0, 0, 0, (⟨#[]⟩ : ByteArray)⟩ : S51), (⟨1, 0, 1, (⟨#[]⟩ : ByteArray)⟩ : S51)] : List (S51)))).bind fun bt348 => ((key_Put.f k ([] : List (S51))).bind fun bt350 => ((key_Put.f k (([(⟨9, 0, 0, (⟨#[]⟩ : ByteArray)⟩ : S51)] : List (S51)))).bind fun bt355 => ((key_Get.f k (⟨#[16, 33, 1]⟩ : ByteArray)).bind fun bt357 => ((key_Get.f k (⟨#[1]⟩ : ByteArray)).bind fun bt361 => ((key_Get.f k (⟨#[16, 1, 16]⟩ : ByteArray)).bind fun bt365 => ((key_Get.f k (⟨#[16]⟩ : ByteArray)).bind fun bt369 => ((key_Get.f k (⟨#[5, 1]⟩ : ByteArray)).bind fun bt373 => ((key_Part.f k (⟨#[16, 33, 1]⟩ : ByteArray) 1).bind fun bt377 => ((key_Part.f k (⟨#[16, 33, 1]⟩ : ByteArray) 3).bind fun bt379 => (if bt348.1.toList = ([16, 33, 1] : List UInt8) then (if bt348.2 = 0 then (if bt350.1.toList = ([1] : List UInt8) then (if bt350.2 = 0 then (if bt355.2 = 3 then ((withylaw04_Ref.f k bt357.1).bind fun t381 => ((withyref04_Same.f k t381 (([(⟨0, 0, 0, (⟨#[]⟩ : ByteArray)⟩ : S56), (⟨1, 0, 1, (⟨#[]⟩ : ByteArray)⟩ : S56)] : List (S56)))).bind fun t387 => (if t387 = true then (if bt357.2 = 0 then (if (bt361.1.length : Int) = 0 then (if bt361.2 = 0 then (if bt365.2 = 3 then (if bt369.2 = 7 then (if bt373.2 = 3 then (if bt377.1.toList = ([16] : List UInt8) then (if bt377.2 = 0 then (if bt379.2 = 4 then (if 1 ≤ (bt357.1.length : Int) then ((key_Compare.f k bt357.1 (bt357.1.take 1)).bind fun t392 => (if t392 = 1 then ((key_Compare.f k ([] : List (S51)) bt357.1).bind fun t393 => (if t393 = (-1) then ((key_Compare.f k bt357.1 bt357.1).bind fun t394 => (some (t394 == 0))) else (none))) else (none))) else (none)) else (none)) else (none)) else (none)) else (none)) else (none)) else (none)) else (none)) else (none)) else (none)) else (none)))) else (none)) else (none)) else (none)) else (none)) else (none)))))))))))) = some r := h
 clear h
 obtain ⟨y345, hy345⟩ : ∃ y_ : List (S51), y_ = (([(⟨0, 0, 0, (⟨#[]⟩ : ByteArray)⟩ : S51), (⟨1, 0, 1, (⟨#[]⟩ : ByteArray)⟩ : S51)] : List (S51))) := ⟨_, rfl⟩
 replace H : ((key_Put.f k y345).bind fun bt348 => ((key_Put.f k ([] : List (S51))).bind fun bt350 => ((key_Put.f k (([(⟨9, 0, 0, (⟨#[]⟩ : ByteArray)⟩ : S51)] : List (S51)))).bind fun bt355 => ((key_Get.f k (⟨#[16, 33, 1]⟩ : ByteArray)).bind fun bt357 => ((key_Get.f k (⟨#[1]⟩ : ByteArray)).bind fun bt361 => ((key_Get.f k (⟨#[16, 1, 16]⟩ : ByteArray)).bind fun bt365 => ((key_Get.f k (⟨#[16]⟩ : ByteArray)).bind fun bt369 => ((key_Get.f k (⟨#[5, 1]⟩ : ByteArray)).bind fun bt373 => ((key_Part.f k (⟨#[16, 33, 1]⟩ : ByteArray) 1).bind fun bt377 => ((key_Part.f k (⟨#[16, 33, 1]⟩ : ByteArray) 3).bind fun bt379 => (if bt348.1.toList = ([16, 33, 1] : List UInt8) then (if bt348.2 = 0 then (if bt350.1.toList = ([1] : List UInt8) then (if bt350.2 = 0 then (if bt355.2 = 3 then ((withylaw04_Ref.f k bt357.1).bind fun t381 => ((withyref04_Same.f k t381 (([(⟨0, 0, 0, (⟨#[]⟩ : ByteArray)⟩ : S56), (⟨1, 0, 1, (⟨#[]⟩ : ByteArray)⟩ : S56)] : List (S56)))).bind fun t387 => (if t387 = true then (if bt357.2 = 0 then (if (bt361.1.length : Int) = 0 then (if bt361.2 = 0 then (if bt365.2 = 3 then (if bt369.2 = 7 then (if bt373.2 = 3 then (if bt377.1.toList = ([16] : List UInt8) then (if bt377.2 = 0 then (if bt379.2 = 4 then (if 1 ≤ (bt357.1.length : Int) then ((key_Compare.f k bt357.1 (bt357.1.take 1)).bind fun t392 => (if t392 = 1 then ((key_Compare.f k ([] : List (S51)) bt357.1).bind fun t393 => (if t393 = (-1) then ((key_Compare.f k bt357.1 bt357.1).bind fun t394 => (some (t394 == 0))) else (none))) else (none))) else (none)) else (none)) else (none)) else (none)) else (none)) else (none)) else (none)) else (none)) else (none)) else (none)) else (none)))) else (none)) else (none)) else (none)) else (none)) else (none)))))))))))) = some r := by first | (rw [hy345]; with_reducible exact H) | (have H2_ := (Option.bind_some _ _).symm.trans H; rw [hy345]; with_reducible exact H2_) | (have H2_ := (Option.bind_some _ _).symm.trans H; with_reducible exact H2_) | with_reducible exact H | (rw [hy345]; exact H) | exact H
 have Ny345 := Aside0.mk hy345
 clear hy345
 replace H := bM H
 obtain ⟨⟨t348, t349⟩, A10, H⟩ := H
 replace H : ((key_Put.f k ([] : List (S51))).bind fun bt350 => ((key_Put.f k (([(⟨9, 0, 0, (⟨#[]⟩ : ByteArray)⟩ : S51)] : List (S51)))).bind fun bt355 => ((key_Get.f k (⟨#[16, 33, 1]⟩ : ByteArray)).bind fun bt357 => ((key_Get.f k (⟨#[1]⟩ : ByteArray)).bind fun bt361 => ((key_Get.f k (⟨#[16, 1, 16]⟩ : ByteArray)).bind fun bt365 => ((key_Get.f k (⟨#[16]⟩ : ByteArray)).bind fun bt369 => ((key_Get.f k (⟨#[5, 1]⟩ : ByteArray)).bind fun bt373 => ((key_Part.f k (⟨#[16, 33, 1]⟩ : ByteArray) 1).bind fun bt377 => ((key_Part.f k (⟨#[16, 33, 1]⟩ : ByteArray) 3).bind fun bt379 => (if t348.toList = ([16, 33, 1] : List UInt8) then (if t349 = 0 then (if bt350.1.toList = ([1] : List UInt8) then (if bt350.2 = 0 then (if bt355.2 = 3 then ((withylaw04_Ref.f k bt357.1).bind fun t381 => ((withyref04_Same.f k t381 (([(⟨0, 0, 0, (⟨#[]⟩ : ByteArray)⟩ : S56), (⟨1, 0, 1, (⟨#[]⟩ : ByteArray)⟩ : S56)] : List (S56)))).bind fun t387 => (if t387 = true then (if bt357.2 = 0 then (if (bt361.1.length : Int) = 0 then (if bt361.2 = 0 then (if bt365.2 = 3 then (if bt369.2 = 7 then (if bt373.2 = 3 then (if bt377.1.toList = ([16] : List UInt8) then (if bt377.2 = 0 then (if bt379.2 = 4 then (if 1 ≤ (bt357.1.length : Int) then ((key_Compare.f k bt357.1 (bt357.1.take 1)).bind fun t392 => (if t392 = 1 then ((key_Compare.f k ([] : List (S51)) bt357.1).bind fun t393 => (if t393 = (-1) then ((key_Compare.f k bt357.1 bt357.1).bind fun t394 => (some (t394 == 0))) else (none))) else (none))) else (none)) else (none)) else (none)) else (none)) else (none)) else (none)) else (none)) else (none)) else (none)) else (none)) else (none)))) else (none)) else (none)) else (none)) else (none)) else (none))))))))))) = some r := H
 have A1 := Aside0.mk A10
 clear A10
 replace H := bM H
 obtain ⟨⟨t350, t351⟩, A20, H⟩ := H
 replace H : ((key_Put.f k (([(⟨9, 0, 0, (⟨#[]⟩ : ByteArray)⟩ : S51)] : List (S51)))).bind fun bt355 => ((key_Get.f k (⟨#[16, 33, 1]⟩ : ByteArray)).bind fun bt357 => ((key_Get.f k (⟨#[1]⟩ : ByteArray)).bind fun bt361 => ((key_Get.f k (⟨#[16, 1, 16]⟩ : ByteArray)).bind fun bt365 => ((key_Get.f k (⟨#[16]⟩ : ByteArray)).bind fun bt369 => ((key_Get.f k (⟨#[5, 1]⟩ : ByteArray)).bind fun bt373 => ((key_Part.f k (⟨#[16, 33, 1]⟩ : ByteArray) 1).bind fun bt377 => ((key_Part.f k (⟨#[16, 33, 1]⟩ : ByteArray) 3).bind fun bt379 => (if t348.toList = ([16, 33, 1] : List UInt8) then (if t349 = 0 then (if t350.toList = ([1] : List UInt8) then (if t351 = 0 then (if bt355.2 = 3 then ((withylaw04_Ref.f k bt357.1).bind fun t381 => ((withyref04_Same.f k t381 (([(⟨0, 0, 0, (⟨#[]⟩ : ByteArray)⟩ : S56), (⟨1, 0, 1, (⟨#[]⟩ : ByteArray)⟩ : S56)] : List (S56)))).bind fun t387 => (if t387 = true then (if bt357.2 = 0 then (if (bt361.1.length : Int) = 0 then (if bt361.2 = 0 then (if bt365.2 = 3 then (if bt369.2 = 7 then (if bt373.2 = 3 then (if bt377.1.toList = ([16] : List UInt8) then (if bt377.2 = 0 then (if bt379.2 = 4 then (if 1 ≤ (bt357.1.length : Int) then ((key_Compare.f k bt357.1 (bt357.1.take 1)).bind fun t392 => (if t392 = 1 then ((key_Compare.f k ([] : List (S51)) bt357.1).bind fun t393 => (if t393 = (-1) then ((key_Compare.f k bt357.1 bt357.1).bind fun t394 => (some (t394 == 0))) else (none))) else (none))) else (none)) else (none)) else (none)) else (none)) else (none)) else (none)) else (none)) else (none)) else (none)) else (none)) else (none)))) else (none)) else (none)) else (none)) else (none)) else (none)))))))))) = some r := H
 have A2 := Aside0.mk A20
 clear A20
 obtain ⟨y352, hy352⟩ : ∃ y_ : List (S51), y_ = (([(⟨9, 0, 0, (⟨#[]⟩ : ByteArray)⟩ : S51)] : List (S51))) := ⟨_, rfl⟩
 replace H : ((key_Put.f k y352).bind fun bt355 => ((key_Get.f k (⟨#[16, 33, 1]⟩ : ByteArray)).bind fun bt357 => ((key_Get.f k (⟨#[1]⟩ : ByteArray)).bind fun bt361 => ((key_Get.f k (⟨#[16, 1, 16]⟩ : ByteArray)).bind fun bt365 => ((key_Get.f k (⟨#[16]⟩ : ByteArray)).bind fun bt369 => ((key_Get.f k (⟨#[5, 1]⟩ : ByteArray)).bind fun bt373 => ((key_Part.f k (⟨#[16, 33, 1]⟩ : ByteArray) 1).bind fun bt377 => ((key_Part.f k (⟨#[16, 33, 1]⟩ : ByteArray) 3).bind fun bt379 => (if t348.toList = ([16, 33, 1] : List UInt8) then (if t349 = 0 then (if t350.toList = ([1] : List UInt8) then (if t351 = 0 then (if bt355.2 = 3 then ((withylaw04_Ref.f k bt357.1).bind fun t381 => ((withyref04_Same.f k t381 (([(⟨0, 0, 0, (⟨#[]⟩ : ByteArray)⟩ : S56), (⟨1, 0, 1, (⟨#[]⟩ : ByteArray)⟩ : S56)] : List (S56)))).bind fun t387 => (if t387 = true then (if bt357.2 = 0 then (if (bt361.1.length : Int) = 0 then (if bt361.2 = 0 then (if bt365.2 = 3 then (if bt369.2 = 7 then (if bt373.2 = 3 then (if bt377.1.toList = ([16] : List UInt8) then (if bt377.2 = 0 then (if bt379.2 = 4 then (if 1 ≤ (bt357.1.length : Int) then ((key_Compare.f k bt357.1 (bt357.1.take 1)).bind fun t392 => (if t392 = 1 then ((key_Compare.f k ([] : List (S51)) bt357.1).bind fun t393 => (if t393 = (-1) then ((key_Compare.f k bt357.1 bt357.1).bind fun t394 => (some (t394 == 0))) else (none))) else (none))) else (none)) else (none)) else (none)) else (none)) else (none)) else (none)) else (none)) else (none)) else (none)) else (none)) else (none)))) else (none)) else (none)) else (none)) else (none)) else (none)))))))))) = some r := by first | (rw [hy352]; with_reducible exact H) | (have H2_ := (Option.bind_some _ _).symm.trans H; rw [hy352]; with_reducible exact H2_) | (have H2_ := (Option.bind_some _ _).symm.trans H; with_reducible exact H2_) | with_reducible exact H | (rw [hy352]; exact H) | exact H
 have Ny352 := Aside0.mk hy352
 clear hy352
 replace H := bM H
 obtain ⟨⟨t355, t356⟩, A30, H⟩ := H
 replace H : ((key_Get.f k (⟨#[16, 33, 1]⟩ : ByteArray)).bind fun bt357 => ((key_Get.f k (⟨#[1]⟩ : ByteArray)).bind fun bt361 => ((key_Get.f k (⟨#[16, 1, 16]⟩ : ByteArray)).bind fun bt365 => ((key_Get.f k (⟨#[16]⟩ : ByteArray)).bind fun bt369 => ((key_Get.f k (⟨#[5, 1]⟩ : ByteArray)).bind fun bt373 => ((key_Part.f k (⟨#[16, 33, 1]⟩ : ByteArray) 1).bind fun bt377 => ((key_Part.f k (⟨#[16, 33, 1]⟩ : ByteArray) 3).bind fun bt379 => (if t348.toList = ([16, 33, 1] : List UInt8) then (if t349 = 0 then (if t350.toList = ([1] : List UInt8) then (if t351 = 0 then (if t356 = 3 then ((withylaw04_Ref.f k bt357.1).bind fun t381 => ((withyref04_Same.f k t381 (([(⟨0, 0, 0, (⟨#[]⟩ : ByteArray)⟩ : S56), (⟨1, 0, 1, (⟨#[]⟩ : ByteArray)⟩ : S56)] : List (S56)))).bind fun t387 => (if t387 = true then (if bt357.2 = 0 then (if (bt361.1.length : Int) = 0 then (if bt361.2 = 0 then (if bt365.2 = 3 then (if bt369.2 = 7 then (if bt373.2 = 3 then (if bt377.1.toList = ([16] : List UInt8) then (if bt377.2 = 0 then (if bt379.2 = 4 then (if 1 ≤ (bt357.1.length : Int) then ((key_Compare.f k bt357.1 (bt357.1.take 1)).bind fun t392 => (if t392 = 1 then ((key_Compare.f k ([] : List (S51)) bt357.1).bind fun t393 => (if t393 = (-1) then ((key_Compare.f k bt357.1 bt357.1).bind fun t394 => (some (t394 == 0))) else (none))) else (none))) else (none)) else (none)) else (none)) else (none)) else (none)) else (none)) else (none)) else (none)) else (none)) else (none)) else (none)))) else (none)) else (none)) else (none)) else (none)) else (none))))))))) = some r := H
 have A3 := Aside0.mk A30
 clear A30
 replace H := bM H
 obtain ⟨⟨t357, t358⟩, A40, H⟩ := H
 replace H : ((key_Get.f k (⟨#[1]⟩ : ByteArray)).bind fun bt361 => ((key_Get.f k (⟨#[16, 1, 16]⟩ : ByteArray)).bind fun bt365 => ((key_Get.f k (⟨#[16]⟩ : ByteArray)).bind fun bt369 => ((key_Get.f k (⟨#[5, 1]⟩ : ByteArray)).bind fun bt373 => ((key_Part.f k (⟨#[16, 33, 1]⟩ : ByteArray) 1).bind fun bt377 => ((key_Part.f k (⟨#[16, 33, 1]⟩ : ByteArray) 3).bind fun bt379 => (if t348.toList = ([16, 33, 1] : List UInt8) then (if t349 = 0 then (if t350.toList = ([1] : List UInt8) then (if t351 = 0 then (if t356 = 3 then ((withylaw04_Ref.f k t357).bind fun t381 => ((withyref04_Same.f k t381 (([(⟨0, 0, 0, (⟨#[]⟩ : ByteArray)⟩ : S56), (⟨1, 0, 1, (⟨#[]⟩ : ByteArray)⟩ : S56)] : List (S56)))).bind fun t387 => (if t387 = true then (if t358 = 0 then (if (bt361.1.length : Int) = 0 then (if bt361.2 = 0 then (if bt365.2 = 3 then (if bt369.2 = 7 then (if bt373.2 = 3 then (if bt377.1.toList = ([16] : List UInt8) then (if bt377.2 = 0 then (if bt379.2 = 4 then (if 1 ≤ (t357.length : Int) then ((key_Compare.f k t357 (t357.take 1)).bind fun t392 => (if t392 = 1 then ((key_Compare.f k ([] : List (S51)) t357).bind fun t393 => (if t393 = (-1) then ((key_Compare.f k t357 t357).bind fun t394 => (some (t394 == 0))) else (none))) else (none))) else (none)) else (none)) else (none)) else (none)) else (none)) else (none)) else (none)) else (none)) else (none)) else (none)) else (none)))) else (none)) else (none)) else (none)) else (none)) else (none)))))))) = some r := H
 have A4 := Aside0.mk A40
 clear A40
 replace H := bM H
 obtain ⟨⟨t361, t362⟩, A50, H⟩ := H
 replace H : ((key_Get.f k (⟨#[16, 1, 16]⟩ : ByteArray)).bind fun bt365 => ((key_Get.f k (⟨#[16]⟩ : ByteArray)).bind fun bt369 => ((key_Get.f k (⟨#[5, 1]⟩ : ByteArray)).bind fun bt373 => ((key_Part.f k (⟨#[16, 33, 1]⟩ : ByteArray) 1).bind fun bt377 => ((key_Part.f k (⟨#[16, 33, 1]⟩ : ByteArray) 3).bind fun bt379 => (if t348.toList = ([16, 33, 1] : List UInt8) then (if t349 = 0 then (if t350.toList = ([1] : List UInt8) then (if t351 = 0 then (if t356 = 3 then ((withylaw04_Ref.f k t357).bind fun t381 => ((withyref04_Same.f k t381 (([(⟨0, 0, 0, (⟨#[]⟩ : ByteArray)⟩ : S56), (⟨1, 0, 1, (⟨#[]⟩ : ByteArray)⟩ : S56)] : List (S56)))).bind fun t387 => (if t387 = true then (if t358 = 0 then (if (t361.length : Int) = 0 then (if t362 = 0 then (if bt365.2 = 3 then (if bt369.2 = 7 then (if bt373.2 = 3 then (if bt377.1.toList = ([16] : List UInt8) then (if bt377.2 = 0 then (if bt379.2 = 4 then (if 1 ≤ (t357.length : Int) then ((key_Compare.f k t357 (t357.take 1)).bind fun t392 => (if t392 = 1 then ((key_Compare.f k ([] : List (S51)) t357).bind fun t393 => (if t393 = (-1) then ((key_Compare.f k t357 t357).bind fun t394 => (some (t394 == 0))) else (none))) else (none))) else (none)) else (none)) else (none)) else (none)) else (none)) else (none)) else (none)) else (none)) else (none)) else (none)) else (none)))) else (none)) else (none)) else (none)) else (none)) else (none))))))) = some r := H
 have A5 := Aside0.mk A50
 clear A50
 replace H := bM H
 obtain ⟨⟨t365, t366⟩, A60, H⟩ := H
 replace H : ((key_Get.f k (⟨#[16]⟩ : ByteArray)).bind fun bt369 => ((key_Get.f k (⟨#[5, 1]⟩ : ByteArray)).bind fun bt373 => ((key_Part.f k (⟨#[16, 33, 1]⟩ : ByteArray) 1).bind fun bt377 => ((key_Part.f k (⟨#[16, 33, 1]⟩ : ByteArray) 3).bind fun bt379 => (if t348.toList = ([16, 33, 1] : List UInt8) then (if t349 = 0 then (if t350.toList = ([1] : List UInt8) then (if t351 = 0 then (if t356 = 3 then ((withylaw04_Ref.f k t357).bind fun t381 => ((withyref04_Same.f k t381 (([(⟨0, 0, 0, (⟨#[]⟩ : ByteArray)⟩ : S56), (⟨1, 0, 1, (⟨#[]⟩ : ByteArray)⟩ : S56)] : List (S56)))).bind fun t387 => (if t387 = true then (if t358 = 0 then (if (t361.length : Int) = 0 then (if t362 = 0 then (if t366 = 3 then (if bt369.2 = 7 then (if bt373.2 = 3 then (if bt377.1.toList = ([16] : List UInt8) then (if bt377.2 = 0 then (if bt379.2 = 4 then (if 1 ≤ (t357.length : Int) then ((key_Compare.f k t357 (t357.take 1)).bind fun t392 => (if t392 = 1 then ((key_Compare.f k ([] : List (S51)) t357).bind fun t393 => (if t393 = (-1) then ((key_Compare.f k t357 t357).bind fun t394 => (some (t394 == 0))) else (none))) else (none))) else (none)) else (none)) else (none)) else (none)) else (none)) else (none)) else (none)) else (none)) else (none)) else (none)) else (none)))) else (none)) else (none)) else (none)) else (none)) else (none)))))) = some r := H
 have A6 := Aside0.mk A60
 clear A60
 replace H := bM H
 obtain ⟨⟨t369, t370⟩, A70, H⟩ := H
 replace H : ((key_Get.f k (⟨#[5, 1]⟩ : ByteArray)).bind fun bt373 => ((key_Part.f k (⟨#[16, 33, 1]⟩ : ByteArray) 1).bind fun bt377 => ((key_Part.f k (⟨#[16, 33, 1]⟩ : ByteArray) 3).bind fun bt379 => (if t348.toList = ([16, 33, 1] : List UInt8) then (if t349 = 0 then (if t350.toList = ([1] : List UInt8) then (if t351 = 0 then (if t356 = 3 then ((withylaw04_Ref.f k t357).bind fun t381 => ((withyref04_Same.f k t381 (([(⟨0, 0, 0, (⟨#[]⟩ : ByteArray)⟩ : S56), (⟨1, 0, 1, (⟨#[]⟩ : ByteArray)⟩ : S56)] : List (S56)))).bind fun t387 => (if t387 = true then (if t358 = 0 then (if (t361.length : Int) = 0 then (if t362 = 0 then (if t366 = 3 then (if t370 = 7 then (if bt373.2 = 3 then (if bt377.1.toList = ([16] : List UInt8) then (if bt377.2 = 0 then (if bt379.2 = 4 then (if 1 ≤ (t357.length : Int) then ((key_Compare.f k t357 (t357.take 1)).bind fun t392 => (if t392 = 1 then ((key_Compare.f k ([] : List (S51)) t357).bind fun t393 => (if t393 = (-1) then ((key_Compare.f k t357 t357).bind fun t394 => (some (t394 == 0))) else (none))) else (none))) else (none)) else (none)) else (none)) else (none)) else (none)) else (none)) else (none)) else (none)) else (none)) else (none)) else (none)))) else (none)) else (none)) else (none)) else (none)) else (none))))) = some r := H
 have A7 := Aside0.mk A70
 clear A70
 replace H := bM H
 obtain ⟨⟨t373, t374⟩, A80, H⟩ := H
 replace H : ((key_Part.f k (⟨#[16, 33, 1]⟩ : ByteArray) 1).bind fun bt377 => ((key_Part.f k (⟨#[16, 33, 1]⟩ : ByteArray) 3).bind fun bt379 => (if t348.toList = ([16, 33, 1] : List UInt8) then (if t349 = 0 then (if t350.toList = ([1] : List UInt8) then (if t351 = 0 then (if t356 = 3 then ((withylaw04_Ref.f k t357).bind fun t381 => ((withyref04_Same.f k t381 (([(⟨0, 0, 0, (⟨#[]⟩ : ByteArray)⟩ : S56), (⟨1, 0, 1, (⟨#[]⟩ : ByteArray)⟩ : S56)] : List (S56)))).bind fun t387 => (if t387 = true then (if t358 = 0 then (if (t361.length : Int) = 0 then (if t362 = 0 then (if t366 = 3 then (if t370 = 7 then (if t374 = 3 then (if bt377.1.toList = ([16] : List UInt8) then (if bt377.2 = 0 then (if bt379.2 = 4 then (if 1 ≤ (t357.length : Int) then ((key_Compare.f k t357 (t357.take 1)).bind fun t392 => (if t392 = 1 then ((key_Compare.f k ([] : List (S51)) t357).bind fun t393 => (if t393 = (-1) then ((key_Compare.f k t357 t357).bind fun t394 => (some (t394 == 0))) else (none))) else (none))) else (none)) else (none)) else (none)) else (none)) else (none)) else (none)) else (none)) else (none)) else (none)) else (none)) else (none)))) else (none)) else (none)) else (none)) else (none)) else (none)))) = some r := H
 have A8 := Aside0.mk A80
 clear A80
 replace H := bM H
 obtain ⟨⟨t377, t378⟩, A90, H⟩ := H
 replace H : ((key_Part.f k (⟨#[16, 33, 1]⟩ : ByteArray) 3).bind fun bt379 => (if t348.toList = ([16, 33, 1] : List UInt8) then (if t349 = 0 then (if t350.toList = ([1] : List UInt8) then (if t351 = 0 then (if t356 = 3 then ((withylaw04_Ref.f k t357).bind fun t381 => ((withyref04_Same.f k t381 (([(⟨0, 0, 0, (⟨#[]⟩ : ByteArray)⟩ : S56), (⟨1, 0, 1, (⟨#[]⟩ : ByteArray)⟩ : S56)] : List (S56)))).bind fun t387 => (if t387 = true then (if t358 = 0 then (if (t361.length : Int) = 0 then (if t362 = 0 then (if t366 = 3 then (if t370 = 7 then (if t374 = 3 then (if t377.toList = ([16] : List UInt8) then (if t378 = 0 then (if bt379.2 = 4 then (if 1 ≤ (t357.length : Int) then ((key_Compare.f k t357 (t357.take 1)).bind fun t392 => (if t392 = 1 then ((key_Compare.f k ([] : List (S51)) t357).bind fun t393 => (if t393 = (-1) then ((key_Compare.f k t357 t357).bind fun t394 => (some (t394 == 0))) else (none))) else (none))) else (none)) else (none)) else (none)) else (none)) else (none)) else (none)) else (none)) else (none)) else (none)) else (none)) else (none)))) else (none)) else (none)) else (none)) else (none)) else (none))) = some r := H
 have A9 := Aside0.mk A90
 clear A90
 replace H := bM H
 obtain ⟨⟨t379, t380⟩, A100, H⟩ := H
 replace H : (if t348.toList = ([16, 33, 1] : List UInt8) then (if t349 = 0 then (if t350.toList = ([1] : List UInt8) then (if t351 = 0 then (if t356 = 3 then ((withylaw04_Ref.f k t357).bind fun t381 => ((withyref04_Same.f k t381 (([(⟨0, 0, 0, (⟨#[]⟩ : ByteArray)⟩ : S56), (⟨1, 0, 1, (⟨#[]⟩ : ByteArray)⟩ : S56)] : List (S56)))).bind fun t387 => (if t387 = true then (if t358 = 0 then (if (t361.length : Int) = 0 then (if t362 = 0 then (if t366 = 3 then (if t370 = 7 then (if t374 = 3 then (if t377.toList = ([16] : List UInt8) then (if t378 = 0 then (if t380 = 4 then (if 1 ≤ (t357.length : Int) then ((key_Compare.f k t357 (t357.take 1)).bind fun t392 => (if t392 = 1 then ((key_Compare.f k ([] : List (S51)) t357).bind fun t393 => (if t393 = (-1) then ((key_Compare.f k t357 t357).bind fun t394 => (some (t394 == 0))) else (none))) else (none))) else (none)) else (none)) else (none)) else (none)) else (none)) else (none)) else (none)) else (none)) else (none)) else (none)) else (none)))) else (none)) else (none)) else (none)) else (none)) else (none)) = some r := H
 have A10 := Aside0.mk A100
 clear A100
 by_cases c11 : t348.toList = ([16, 33, 1] : List UInt8)
 rotate_left
 ·rw [if_neg c11] at H
  exact absurd H (by simp)
 
 rw [if_pos c11] at H
 have c11b0 : (t348.toList == ([16, 33, 1] : List UInt8)) = true := beq_iff_eq.mpr c11
 have c11b1 : (t348.toList != ([16, 33, 1] : List UInt8)) = false := bne_eq_false_iff_eq.mpr c11
 clear c11
 by_cases c12 : t349 = 0
 rotate_left
 ·rw [if_neg c12] at H
  exact absurd H (by simp)
 rw [if_pos c12] at H
 have c12b0 : (t349 == 0) = true := beq_iff_eq.mpr c12
 have c12b1 : (t349 != 0) = false := bne_eq_false_iff_eq.mpr c12
 clear c12
 by_cases c13 : t350.toList = ([1] : List UInt8)
 rotate_left
 ·rw [if_neg c13] at H
  exact absurd H (by simp)
 rw [if_pos c13] at H
 have c13b0 : (t350.toList == ([1] : List UInt8)) = true := beq_iff_eq.mpr c13
 have c13b1 : (t350.toList != ([1] : List UInt8)) = false := bne_eq_false_iff_eq.mpr c13
 clear c13
 by_cases c14 : t351 = 0
 rotate_left
 ·rw [if_neg c14] at H
  exact absurd H (by simp)
 rw [if_pos c14] at H
 have c14b0 : (t351 == 0) = true := beq_iff_eq.mpr c14
 have c14b1 : (t351 != 0) = false := bne_eq_false_iff_eq.mpr c14
 clear c14
 by_cases c15 : t356 = 3
 rotate_left
 ·rw [if_neg c15] at H
  exact absurd H (by simp)
 rw [if_pos c15] at H
 have c15b0 : (t356 == 3) = true := beq_iff_eq.mpr c15
 have c15b1 : (t356 != 3) = false := bne_eq_false_iff_eq.mpr c15
 clear c15
 replace H := bM H
 obtain ⟨t381, A160, H⟩ := H
 replace H : ((withyref04_Same.f k t381 (([(⟨0, 0, 0, (⟨#[]⟩ : ByteArray)⟩ : S56), (⟨1, 0, 1, (⟨#[]⟩ : ByteArray)⟩ : S56)] : List (S56)))).bind fun t387 => (if t387 = true then (if t358 = 0 then (if (t361.length : Int) = 0 then (if t362 = 0 then (if t366 = 3 then (if t370 = 7 then (if t374 = 3 then (if t377.toList = ([16] : List UInt8) then (if t378 = 0 then (if t380 = 4 then (if 1 ≤ (t357.length : Int) then ((key_Compare.f k t357 (t357.take 1)).bind fun t392 => (if t392 = 1 then ((key_Compare.f k ([] : List (S51)) t357).bind fun t393 => (if t393 = (-1) then ((key_Compare.f k t357 t357).bind fun t394 => (some (t394 == 0))) else (none))) else (none))) else (none)) else (none)) else (none)) else (none)) else (none)) else (none)) else (none)) else (none)) else (none)) else (none)) else (none))) = some r := H
 have A16 := Aside0.mk A160
 clear A160
 obtain ⟨y384, hy384⟩ : ∃ y_ : List (S56), y_ = (([(⟨0, 0, 0, (⟨#[]⟩ : ByteArray)⟩ : S56), (⟨1, 0, 1, (⟨#[]⟩ : ByteArray)⟩ : S56)] : List (S56))) := ⟨_, rfl⟩
 replace H : ((withyref04_Same.f k t381 y384).bind fun t387 => (if t387 = true then (if t358 = 0 then (if (t361.length : Int) = 0 then (if t362 = 0 then (if t366 = 3 then (if t370 = 7 then (if t374 = 3 then (if t377.toList = ([16] : List UInt8) then (if t378 = 0 then (if t380 = 4 then (if 1 ≤ (t357.length : Int) then ((key_Compare.f k t357 (t357.take 1)).bind fun t392 => (if t392 = 1 then ((key_Compare.f k ([] : List (S51)) t357).bind fun t393 => (if t393 = (-1) then ((key_Compare.f k t357 t357).bind fun t394 => (some (t394 == 0))) else (none))) else (none))) else (none)) else (none)) else (none)) else (none)) else (none)) else (none)) else (none)) else (none)) else (none)) else (none)) else (none))) = some r := by first | (rw [hy384]; with_reducible exact H) | (have H2_ := (Option.bind_some _ _).symm.trans H; rw [hy384]; with_reducible exact H2_) | (have H2_ := (Option.bind_some _ _).symm.trans H; with_reducible exact H2_) | with_reducible exact H | (rw [hy384]; exact H) | exact H
 have Ny384 := Aside0.mk hy384
 clear hy384
 replace H := bM H
 obtain ⟨t387, A170, H⟩ := H
 replace H : (if t387 = true then (if t358 = 0 then (if (t361.length : Int) = 0 then (if t362 = 0 then (if t366 = 3 then (if t370 = 7 then (if t374 = 3 then (if t377.toList = ([16] : List UInt8) then (if t378 = 0 then (if t380 = 4 then (if 1 ≤ (t357.length : Int) then ((key_Compare.f k t357 (t357.take 1)).bind fun t392 => (if t392 = 1 then ((key_Compare.f k ([] : List (S51)) t357).bind fun t393 => (if t393 = (-1) then ((key_Compare.f k t357 t357).bind fun t394 => (some (t394 == 0))) else (none))) else (none))) else (none)) else (none)) else (none)) else (none)) else (none)) else (none)) else (none)) else (none)) else (none)) else (none)) else (none)) = some r := H
 have A17 := Aside0.mk A170
 clear A170
 by_cases c18 : t387 = true
 rotate_left
 ·replace c18 := Bool.eq_false_iff.mpr c18
  subst c18
  have H1 : (none) = some r := by rw [if_neg (show ¬ (false = true) by decide)] at H; exact H
  clear H
  have H := H1
  clear H1
  exact absurd H (by simp)
 subst c18
 have H1 : (if t358 = 0 then (if (t361.length : Int) = 0 then (if t362 = 0 then (if t366 = 3 then (if t370 = 7 then (if t374 = 3 then (if t377.toList = ([16] : List UInt8) then (if t378 = 0 then (if t380 = 4 then (if 1 ≤ (t357.length : Int) then ((key_Compare.f k t357 (t357.take 1)).bind fun t392 => (if t392 = 1 then ((key_Compare.f k ([] : List (S51)) t357).bind fun t393 => (if t393 = (-1) then ((key_Compare.f k t357 t357).bind fun t394 => (some (t394 == 0))) else (none))) else (none))) else (none)) else (none)) else (none)) else (none)) else (none)) else (none)) else (none)) else (none)) else (none)) else (none)) = some r := by rw [if_pos rfl] at H; exact H
 clear H
 have H := H1
 clear H1
 by_cases c19 : t358 = 0
 rotate_left
 ·rw [if_neg c19] at H
  exact absurd H (by simp)
 rw [if_pos c19] at H
 have c19b0 : (t358 == 0) = true := beq_iff_eq.mpr c19
 have c19b1 : (t358 != 0) = false := bne_eq_false_iff_eq.mpr c19
 clear c19
 by_cases c20 : (t361.length : Int) = 0
 rotate_left
 ·rw [if_neg c20] at H
  exact absurd H (by simp)
 rw [if_pos c20] at H
 have c20b0 : ((t361.length : Int) == 0) = true := beq_iff_eq.mpr c20
 have c20b1 : ((t361.length : Int) != 0) = false := bne_eq_false_iff_eq.mpr c20
 clear c20
 by_cases c21 : t362 = 0
 rotate_left
 ·rw [if_neg c21] at H
  exact absurd H (by simp)
 rw [if_pos c21] at H
 have c21b0 : (t362 == 0) = true := beq_iff_eq.mpr c21
 have c21b1 : (t362 != 0) = false := bne_eq_false_iff_eq.mpr c21
 clear c21
 by_cases c22 : t366 = 3
 rotate_left
 ·rw [if_neg c22] at H
  exact absurd H (by simp)
 rw [if_pos c22] at H
 have c22b0 : (t366 == 3) = true := beq_iff_eq.mpr c22
 have c22b1 : (t366 != 3) = false := bne_eq_false_iff_eq.mpr c22
 clear c22
 by_cases c23 : t370 = 7
 rotate_left
 ·rw [if_neg c23] at H
  exact absurd H (by simp)
 rw [if_pos c23] at H
 have c23b0 : (t370 == 7) = true := beq_iff_eq.mpr c23
 have c23b1 : (t370 != 7) = false := bne_eq_false_iff_eq.mpr c23
 clear c23
 by_cases c24 : t374 = 3
 rotate_left
 ·rw [if_neg c24] at H
  exact absurd H (by simp)
 rw [if_pos c24] at H
 have c24b0 : (t374 == 3) = true := beq_iff_eq.mpr c24
 have c24b1 : (t374 != 3) = false := bne_eq_false_iff_eq.mpr c24
 clear c24
 by_cases c25 : t377.toList = ([16] : List UInt8)
 rotate_left
 ·rw [if_neg c25] at H
  exact absurd H (by simp)
 rw [if_pos c25] at H
 have c25b0 : (t377.toList == ([16] : List UInt8)) = true := beq_iff_eq.mpr c25
 have c25b1 : (t377.toList != ([16] : List UInt8)) = false := bne_eq_false_iff_eq.mpr c25
 clear c25
 by_cases c26 : t378 = 0
 rotate_left
 ·rw [if_neg c26] at H
  exact absurd H (by simp)
 rw [if_pos c26] at H
 have c26b0 : (t378 == 0) = true := beq_iff_eq.mpr c26
 have c26b1 : (t378 != 0) = false := bne_eq_false_iff_eq.mpr c26
 clear c26
 by_cases c27 : t380 = 4
 rotate_left
 ·rw [if_neg c27] at H
  exact absurd H (by simp)
 rw [if_pos c27] at H
 have c27b0 : (t380 == 4) = true := beq_iff_eq.mpr c27
 have c27b1 : (t380 != 4) = false := bne_eq_false_iff_eq.mpr c27
 clear c27
 by_cases c28 : 1 ≤ (t357.length : Int)
 rotate_left
 ·rw [if_neg c28] at H
  exact absurd H (by simp)
 rw [if_pos c28] at H
 have c28b0 := eq_true c28
 have c28b1 : decide (1 ≤ (t357.length : Int)) = true := decide_eq_true c28
 clear c28
 obtain ⟨y388, hy388⟩ : ∃ y_ : List (S51), y_ = (t357.take 1) := ⟨_, rfl⟩
 replace H : ((key_Compare.f k t357 y388).bind fun t392 => (if t392 = 1 then ((key_Compare.f k ([] : List (S51)) t357).bind fun t393 => (if t393 = (-1) then ((key_Compare.f k t357 t357).bind fun t394 => (some (t394 == 0))) else (none))) else (none))) = some r := by first | (rw [hy388]; with_reducible exact H) | (have H2_ := (Option.bind_some _ _).symm.trans H; rw [hy388]; with_reducible exact H2_) | (have H2_ := (Option.bind_some _ _).symm.trans H; with_reducible exact H2_) | with_reducible exact H | (rw [hy388]; exact H) | exact H
 have Ny388 := Aside0.mk hy388
 clear hy388
 replace H := bM H
 obtain ⟨t392, A290, H⟩ := H
 replace H : (if t392 = 1 then ((key_Compare.f k ([] : List (S51)) t357).bind fun t393 => (if t393 = (-1) then ((key_Compare.f k t357 t357).bind fun t394 => (some (t394 == 0))) else (none))) else (none)) = some r := H
 have A29 := Aside0.mk A290
 clear A290
 by_cases c30 : t392 = 1
 rotate_left
 ·rw [if_neg c30] at H
  exact absurd H (by simp)
 rw [if_pos c30] at H
 have c30b0 : (t392 == 1) = true := beq_iff_eq.mpr c30
 have c30b1 : (t392 != 1) = false := bne_eq_false_iff_eq.mpr c30
 clear c30
 replace H := bM H
 obtain ⟨t393, A310, H⟩ := H
 replace H : (if t393 = (-1) then ((key_Compare.f k t357 t357).bind fun t394 => (some (t394 == 0))) else (none)) = some r := H
 have A31 := Aside0.mk A310
 clear A310
 by_cases c32 : t393 = (-1)
 rotate_left
 ·rw [if_neg c32] at H
  exact absurd H (by simp)
 rw [if_pos c32] at H
 have c32b0 : (t393 == (-1)) = true := beq_iff_eq.mpr c32
 have c32b1 : (t393 != (-1)) = false := bne_eq_false_iff_eq.mpr c32
 clear c32
 replace H := bM H
 obtain ⟨t394, A330, H⟩ := H
 replace H : (some (t394 == 0)) = some r := H
 have A33 := Aside0.mk A330
 clear A330
 obtain rfl := Option.some.inj H
 go_enter Tryd.func21, Tryd.ntmps21
 (try simp only [List.append_eq, List.cons_append, List.nil_append])
 go_wp2_with (first | ((with_reducible refine gate_dst (N := 1) rfl ?_); (try (refine gate_guard (by rfl) ?_; dsimp only)); refine box_event ?hg (N := 1) ?hd (cs := #[.int .i64 0, .int .i64 0, .int .u64 0, .string (⟨#[]⟩ : ByteArray)]) (t := 51) ?hr ?_; (case hd => rfl); (case hg => rfl); (case hr => first | (go_simp; done) | (go_simp; rfl)); intro gb344 hg w34 hbox hb; have BK344 := as_ (hbox); have GW344 := gw hg bA; have GE344 := gw hg bA; replace HB := as_ (below_step bA hb); clear hb hbox hg; obtain ⟨hcz35_0, hcz35_1, hcz35_2, hcz35_3⟩ := zc4 BK344; obtain ⟨hfz35_0, hfz35_1, hfz35_2, hfz35_3⟩ := zf4 BK344) | ((with_reducible refine gate_dst (N := 26) rfl ?_); (try (refine gate_guard (by rfl) ?_; dsimp only)); refine Kd.R_lit k51 _ 51 ?hg (N := 26) ?hd (xs := ([(⟨0, 0, 0, (⟨#[]⟩ : ByteArray)⟩ : S51), (⟨1, 0, 1, (⟨#[]⟩ : ByteArray)⟩ : S51)] : List (S51))) (inner := [.int .i64 0, .int .i64 0, .int .u64 0, .string (⟨#[]⟩ : ByteArray), .int .i64 1, .int .i64 0, .int .u64 1, .string (⟨#[]⟩ : ByteArray)]) (ok := fun _ => True) (okp := fun _ => True) ?hr ?hp (fun _ hk => hk) trivial (Below.refl _ _) (Nat.le_refl _) (by simp) ?_; (case hd => rfl); (case hg => rfl); (case hr => first | (go_simp; done) | (go_simp; rfl)); (case hp => exact (Reps.c4 (show Kd.M k51 _ _ _ (⟨0, 0, 0, (⟨#[]⟩ : ByteArray)⟩ : S51) [.int .i64 0, .int .i64 0, .int .u64 0, .string (⟨#[]⟩ : ByteArray)] from (k51_mkM _ _ _ (⟨0, 0, 0, (⟨#[]⟩ : ByteArray)⟩ : S51) )) (Reps.c4 (show Kd.M k51 _ _ _ (⟨1, 0, 1, (⟨#[]⟩ : ByteArray)⟩ : S51) [.int .i64 1, .int .i64 0, .int .u64 1, .string (⟨#[]⟩ : ByteArray)] from (k51_mkM _ _ _ (⟨1, 0, 1, (⟨#[]⟩ : ByteArray)⟩ : S51) )) (Reps.none _ _)))); intro v346 w36 ho37 hb hg_ hnew_; clear hg_ hnew_; (first | rw [← Ny345.out] at ho37 | (simp only [Int.reduceToNat] at ho37; rw [← Ny345.out] at ho37)); have HO347 := as_ (Kd.R_lower (Kd.R_newB ho37 (g := gb344) (o := .cells #[.int .i64 1, .int .i64 0, .int .u64 1, .string (⟨#[]⟩ : ByteArray)] 51 (0, 0)) (by refine bx ?_; refine blk_put (cs := #[.int .i64 1, .int .i64 0, .int .u64 1, .string (⟨#[]⟩ : ByteArray)]) ?_ 3 _ rfl; refine bx ?_; refine blk_put (cs := #[.int .i64 1, .int .i64 0, .int .u64 0, .string (⟨#[]⟩ : ByteArray)]) ?_ 2 _ rfl; refine bx ?_; refine blk_put (cs := #[.int .i64 1, .int .i64 0, .int .u64 0, .string (⟨#[]⟩ : ByteArray)]) ?_ 1 _ rfl; refine bx ?_; refine blk_put (cs := #[.int .i64 0, .int .i64 0, .int .u64 0, .string (⟨#[]⟩ : ByteArray)]) ?_ 0 _ rfl; refine bx ?_; exact BK344.out)) (below_size bA)); replace BK344 := as_ (blk_below (g := gb344) (o := .cells #[.int .i64 1, .int .i64 0, .int .u64 1, .string (⟨#[]⟩ : ByteArray)] 51 (0, 0)) (by refine bx ?_; refine blk_put (cs := #[.int .i64 1, .int .i64 0, .int .u64 1, .string (⟨#[]⟩ : ByteArray)]) ?_ 3 _ rfl; refine bx ?_; refine blk_put (cs := #[.int .i64 1, .int .i64 0, .int .u64 0, .string (⟨#[]⟩ : ByteArray)]) ?_ 2 _ rfl; refine bx ?_; refine blk_put (cs := #[.int .i64 1, .int .i64 0, .int .u64 0, .string (⟨#[]⟩ : ByteArray)]) ?_ 1 _ rfl; refine bx ?_; refine blk_put (cs := #[.int .i64 0, .int .i64 0, .int .u64 0, .string (⟨#[]⟩ : ByteArray)]) ?_ 0 _ rfl; refine bx ?_; exact BK344.out) hb); replace HB := as_ (below_step bA hb); clear hb ho37; obtain ⟨Ao38, co38, eo38⟩ := Kd.R_slice HO347.out; subst eo38) | ((with_reducible refine gate_callee (f := 10) rfl ?_); refine goesL_ (some 27) rfl rfl Tryd.func10 (by kernel_rfl) rfl #[.slice Ao38 y345.length co38] rfl aO ?_; (with_reducible refine (key_Put.calls k _ _ y345 t348 t349 _ ?side1 ?side2 A1.out).mono ?_); (case side1 => repeat (first | exact (Kd.R_reads' HO347.out).2.2 | (with_reducible refine Kd.C_alloc ?_ _) | (with_reducible refine Kd.C_drewN ?_ _) | (with_reducible refine Kd.C_drew ?_))); (case side2 => exact (Kd.R_reads' HO347.out).2.1); rintro e w39 ⟨rfl, hb⟩; refine ⟨_, rfl, ?_⟩; replace HO347 := as_ (Kd.R_below (by (with_reducible repeat (first | apply Kd.R_alloc | apply Kd.R_drewN | apply Kd.R_drew)); exact HO347.out) hb); replace BK344 := as_ (blk_below (g := gb344) (o := .cells #[.int .i64 1, .int .i64 0, .int .u64 1, .string (⟨#[]⟩ : ByteArray)] 51 (0, 0)) (bk BK344) hb); replace HB := as_ (below_step bA hb); (try clear hb); (try clear hb2); (try clear hk); (try clear hi)) | ((with_reducible refine gate_callee (f := 10) rfl ?_); refine goesL_ (some 31) rfl rfl Tryd.func10 (by kernel_rfl) rfl #[.slice none 0 0] rfl aO ?_; (refine (key_Put.calls k _ _ ([] : List (S51)) t350 t351 _ ?side1 ?side2 A2.out).mono ?_); (case side1 => exact Kd.C_nil _ _); (case side2 => exact Nat.le_refl _); rintro e w40 ⟨rfl, hb⟩; refine ⟨_, rfl, ?_⟩; replace HO347 := as_ (Kd.R_below (by (with_reducible repeat (first | apply Kd.R_alloc | apply Kd.R_drewN | apply Kd.R_drew)); exact HO347.out) hb); replace BK344 := as_ (blk_below (g := gb344) (o := .cells #[.int .i64 1, .int .i64 0, .int .u64 1, .string (⟨#[]⟩ : ByteArray)] 51 (0, 0)) (bk BK344) hb); replace HB := as_ (below_step bA hb); (try clear hb); (try clear hb2); (try clear hk); (try clear hi)) | ((with_reducible refine gate_dst (N := 36) rfl ?_); (try (refine gate_guard (by rfl) ?_; dsimp only)); refine Kd.R_lit k51 _ 51 ?hg (N := 36) ?hd (xs := ([(⟨9, 0, 0, (⟨#[]⟩ : ByteArray)⟩ : S51)] : List (S51))) (inner := [.int .i64 9, .int .i64 0, .int .u64 0, .string (⟨#[]⟩ : ByteArray)]) (ok := fun _ => True) (okp := fun _ => True) ?hr ?hp (fun _ hk => hk) trivial (Below.refl _ _) (Nat.le_refl _) (by simp) ?_; (case hd => rfl); (case hg => rfl); (case hr => first | (go_simp; done) | (go_simp; rfl)); (case hp => exact (Reps.c4 (show Kd.M k51 _ _ _ (⟨9, 0, 0, (⟨#[]⟩ : ByteArray)⟩ : S51) [.int .i64 9, .int .i64 0, .int .u64 0, .string (⟨#[]⟩ : ByteArray)] from (k51_mkM _ _ _ (⟨9, 0, 0, (⟨#[]⟩ : ByteArray)⟩ : S51) )) (Reps.none _ _))); intro v353 w41 ho42 hb hg_ hnew_; clear hg_ hnew_; (first | rw [← Ny352.out] at ho42 | (simp only [Int.reduceToNat] at ho42; rw [← Ny352.out] at ho42)); have HO354 := as_ (Kd.R_lower (Kd.R_newB (Kd.R_new' ho42 (Kd.R_lt (by (with_reducible repeat (first | apply Kd.R_alloc | apply Kd.R_drewN | apply Kd.R_drew)); exact HO347.out))) (g := gb344) (o := .cells #[.int .i64 1, .int .i64 0, .int .u64 1, .string (⟨#[]⟩ : ByteArray)] 51 (0, 0)) (bk BK344)) (below_size bA)); replace HO347 := as_ (Kd.R_elder' (by (with_reducible repeat (first | apply Kd.R_alloc | apply Kd.R_drewN | apply Kd.R_drew)); exact HO347.out) (Kd.R_base ho42) hb); replace BK344 := as_ (blk_below (g := gb344) (o := .cells #[.int .i64 1, .int .i64 0, .int .u64 1, .string (⟨#[]⟩ : ByteArray)] 51 (0, 0)) (bk BK344) hb); replace HB := as_ (below_step bA hb); clear hb ho42; obtain ⟨Ao43, co43, eo43⟩ := Kd.R_slice HO354.out; subst eo43) | ((with_reducible refine gate_callee (f := 10) rfl ?_); refine goesL_ (some 37) rfl rfl Tryd.func10 (by kernel_rfl) rfl #[.slice Ao43 y352.length co43] rfl aO ?_; (with_reducible refine (key_Put.calls k _ _ y352 t355 t356 _ ?side1 ?side2 A3.out).mono ?_); (case side1 => repeat (first | exact (Kd.R_reads' HO354.out).2.2 | (with_reducible refine Kd.C_alloc ?_ _) | (with_reducible refine Kd.C_drewN ?_ _) | (with_reducible refine Kd.C_drew ?_))); (case side2 => exact (Kd.R_reads' HO354.out).2.1); rintro e w44 ⟨rfl, hb⟩; refine ⟨_, rfl, ?_⟩; replace HO347 := as_ (Kd.R_below (by (with_reducible repeat (first | apply Kd.R_alloc | apply Kd.R_drewN | apply Kd.R_drew)); exact HO347.out) hb); replace HO354 := as_ (Kd.R_below (by (with_reducible repeat (first | apply Kd.R_alloc | apply Kd.R_drewN | apply Kd.R_drew)); exact HO354.out) hb); replace BK344 := as_ (blk_below (g := gb344) (o := .cells #[.int .i64 1, .int .i64 0, .int .u64 1, .string (⟨#[]⟩ : ByteArray)] 51 (0, 0)) (bk BK344) hb); replace HB := as_ (below_step bA hb); (try clear hb); (try clear hb2); (try clear hk); (try clear hi)) | ((with_reducible refine gate_callee (f := 13) rfl ?_); refine goesL_ (some 41) rfl rfl Tryd.func13 (by kernel_rfl) rfl #[.string (⟨#[16, 33, 1]⟩ : ByteArray)] rfl aO ?_; (with_reducible refine (key_Get.calls k (⟨#[16, 33, 1]⟩ : ByteArray) t357 t358 _ A4.out).mono ?_); rintro e w45 ⟨v359, rfl, ho0, hb⟩; refine ⟨_, rfl, ?_⟩; have HO360 := as_ (Kd.R_lower (Kd.R_newB (Kd.R_new' (Kd.R_new' ho0 (Kd.R_lt (by (with_reducible repeat (first | apply Kd.R_alloc | apply Kd.R_drewN | apply Kd.R_drew)); exact HO347.out))) (Kd.R_lt (by (with_reducible repeat (first | apply Kd.R_alloc | apply Kd.R_drewN | apply Kd.R_drew)); exact HO354.out))) (g := gb344) (o := .cells #[.int .i64 1, .int .i64 0, .int .u64 1, .string (⟨#[]⟩ : ByteArray)] 51 (0, 0)) (bk BK344)) (below_size bA)); replace HO347 := as_ (Kd.R_elder' (by (with_reducible repeat (first | apply Kd.R_alloc | apply Kd.R_drewN | apply Kd.R_drew)); exact HO347.out) (Kd.R_base ho0) hb); replace HO354 := as_ (Kd.R_elder' (by (with_reducible repeat (first | apply Kd.R_alloc | apply Kd.R_drewN | apply Kd.R_drew)); exact HO354.out) (Kd.R_base ho0) hb); replace BK344 := as_ (blk_below (g := gb344) (o := .cells #[.int .i64 1, .int .i64 0, .int .u64 1, .string (⟨#[]⟩ : ByteArray)] 51 (0, 0)) (bk BK344) hb); replace HB := as_ (below_step bA hb); (try clear hb); (try clear hb2); (try clear hk); (try clear hi); (try clear ho0)) | ((with_reducible refine gate_callee (f := 13) rfl ?_); refine goesL_ (some 45) rfl rfl Tryd.func13 (by kernel_rfl) rfl #[.string (⟨#[1]⟩ : ByteArray)] rfl aO ?_; (with_reducible refine (key_Get.calls k (⟨#[1]⟩ : ByteArray) t361 t362 _ A5.out).mono ?_); rintro e w46 ⟨v363, rfl, ho0, hb⟩; refine ⟨_, rfl, ?_⟩; have HO364 := as_ (Kd.R_lower (Kd.R_newB (Kd.R_new' (Kd.R_new' (Kd.R_new' ho0 (Kd.R_lt (by (with_reducible repeat (first | apply Kd.R_alloc | apply Kd.R_drewN | apply Kd.R_drew)); exact HO347.out))) (Kd.R_lt (by (with_reducible repeat (first | apply Kd.R_alloc | apply Kd.R_drewN | apply Kd.R_drew)); exact HO354.out))) (Kd.R_lt (by (with_reducible repeat (first | apply Kd.R_alloc | apply Kd.R_drewN | apply Kd.R_drew)); exact HO360.out))) (g := gb344) (o := .cells #[.int .i64 1, .int .i64 0, .int .u64 1, .string (⟨#[]⟩ : ByteArray)] 51 (0, 0)) (bk BK344)) (below_size bA)); replace HO347 := as_ (Kd.R_elder' (by (with_reducible repeat (first | apply Kd.R_alloc | apply Kd.R_drewN | apply Kd.R_drew)); exact HO347.out) (Kd.R_base ho0) hb); replace HO354 := as_ (Kd.R_elder' (by (with_reducible repeat (first | apply Kd.R_alloc | apply Kd.R_drewN | apply Kd.R_drew)); exact HO354.out) (Kd.R_base ho0) hb); replace HO360 := as_ (Kd.R_elder' (by (with_reducible repeat (first | apply Kd.R_alloc | apply Kd.R_drewN | apply Kd.R_drew)); exact HO360.out) (Kd.R_base ho0) hb); replace BK344 := as_ (blk_below (g := gb344) (o := .cells #[.int .i64 1, .int .i64 0, .int .u64 1, .string (⟨#[]⟩ : ByteArray)] 51 (0, 0)) (bk BK344) hb); replace HB := as_ (below_step bA hb); (try clear hb); (try clear hb2); (try clear hk); (try clear hi); (try clear ho0)) | ((with_reducible refine gate_callee (f := 13) rfl ?_); refine goesL_ (some 49) rfl rfl Tryd.func13 (by kernel_rfl) rfl #[.string (⟨#[16, 1, 16]⟩ : ByteArray)] rfl aO ?_; (with_reducible refine (key_Get.calls k (⟨#[16, 1, 16]⟩ : ByteArray) t365 t366 _ A6.out).mono ?_); rintro e w47 ⟨v367, rfl, ho0, hb⟩; refine ⟨_, rfl, ?_⟩; have HO368 := as_ (Kd.R_lower (Kd.R_newB (Kd.R_new' (Kd.R_new' (Kd.R_new' (Kd.R_new' ho0 (Kd.R_lt (by (with_reducible repeat (first | apply Kd.R_alloc | apply Kd.R_drewN | apply Kd.R_drew)); exact HO347.out))) (Kd.R_lt (by (with_reducible repeat (first | apply Kd.R_alloc | apply Kd.R_drewN | apply Kd.R_drew)); exact HO354.out))) (Kd.R_lt (by (with_reducible repeat (first | apply Kd.R_alloc | apply Kd.R_drewN | apply Kd.R_drew)); exact HO360.out))) (Kd.R_lt (by (with_reducible repeat (first | apply Kd.R_alloc | apply Kd.R_drewN | apply Kd.R_drew)); exact HO364.out))) (g := gb344) (o := .cells #[.int .i64 1, .int .i64 0, .int .u64 1, .string (⟨#[]⟩ : ByteArray)] 51 (0, 0)) (bk BK344)) (below_size bA)); replace HO347 := as_ (Kd.R_elder' (by (with_reducible repeat (first | apply Kd.R_alloc | apply Kd.R_drewN | apply Kd.R_drew)); exact HO347.out) (Kd.R_base ho0) hb); replace HO354 := as_ (Kd.R_elder' (by (with_reducible repeat (first | apply Kd.R_alloc | apply Kd.R_drewN | apply Kd.R_drew)); exact HO354.out) (Kd.R_base ho0) hb); replace HO360 := as_ (Kd.R_elder' (by (with_reducible repeat (first | apply Kd.R_alloc | apply Kd.R_drewN | apply Kd.R_drew)); exact HO360.out) (Kd.R_base ho0) hb); replace HO364 := as_ (Kd.R_elder' (by (with_reducible repeat (first | apply Kd.R_alloc | apply Kd.R_drewN | apply Kd.R_drew)); exact HO364.out) (Kd.R_base ho0) hb); replace BK344 := as_ (blk_below (g := gb344) (o := .cells #[.int .i64 1, .int .i64 0, .int .u64 1, .string (⟨#[]⟩ : ByteArray)] 51 (0, 0)) (bk BK344) hb); replace HB := as_ (below_step bA hb); (try clear hb); (try clear hb2); (try clear hk); (try clear hi); (try clear ho0)) | ((with_reducible refine gate_callee (f := 13) rfl ?_); refine goesL_ (some 53) rfl rfl Tryd.func13 (by kernel_rfl) rfl #[.string (⟨#[16]⟩ : ByteArray)] rfl aO ?_; (with_reducible refine (key_Get.calls k (⟨#[16]⟩ : ByteArray) t369 t370 _ A7.out).mono ?_); rintro e w48 ⟨v371, rfl, ho0, hb⟩; refine ⟨_, rfl, ?_⟩; have HO372 := as_ (Kd.R_lower (Kd.R_newB (Kd.R_new' (Kd.R_new' (Kd.R_new' (Kd.R_new' (Kd.R_new' ho0 (Kd.R_lt (by (with_reducible repeat (first | apply Kd.R_alloc | apply Kd.R_drewN | apply Kd.R_drew)); exact HO347.out))) (Kd.R_lt (by (with_reducible repeat (first | apply Kd.R_alloc | apply Kd.R_drewN | apply Kd.R_drew)); exact HO354.out))) (Kd.R_lt (by (with_reducible repeat (first | apply Kd.R_alloc | apply Kd.R_drewN | apply Kd.R_drew)); exact HO360.out))) (Kd.R_lt (by (with_reducible repeat (first | apply Kd.R_alloc | apply Kd.R_drewN | apply Kd.R_drew)); exact HO364.out))) (Kd.R_lt (by (with_reducible repeat (first | apply Kd.R_alloc | apply Kd.R_drewN | apply Kd.R_drew)); exact HO368.out))) (g := gb344) (o := .cells #[.int .i64 1, .int .i64 0, .int .u64 1, .string (⟨#[]⟩ : ByteArray)] 51 (0, 0)) (bk BK344)) (below_size bA)); replace HO347 := as_ (Kd.R_elder' (by (with_reducible repeat (first | apply Kd.R_alloc | apply Kd.R_drewN | apply Kd.R_drew)); exact HO347.out) (Kd.R_base ho0) hb); replace HO354 := as_ (Kd.R_elder' (by (with_reducible repeat (first | apply Kd.R_alloc | apply Kd.R_drewN | apply Kd.R_drew)); exact HO354.out) (Kd.R_base ho0) hb); replace HO360 := as_ (Kd.R_elder' (by (with_reducible repeat (first | apply Kd.R_alloc | apply Kd.R_drewN | apply Kd.R_drew)); exact HO360.out) (Kd.R_base ho0) hb); replace HO364 := as_ (Kd.R_elder' (by (with_reducible repeat (first | apply Kd.R_alloc | apply Kd.R_drewN | apply Kd.R_drew)); exact HO364.out) (Kd.R_base ho0) hb); replace HO368 := as_ (Kd.R_elder' (by (with_reducible repeat (first | apply Kd.R_alloc | apply Kd.R_drewN | apply Kd.R_drew)); exact HO368.out) (Kd.R_base ho0) hb); replace BK344 := as_ (blk_below (g := gb344) (o := .cells #[.int .i64 1, .int .i64 0, .int .u64 1, .string (⟨#[]⟩ : ByteArray)] 51 (0, 0)) (bk BK344) hb); replace HB := as_ (below_step bA hb); (try clear hb); (try clear hb2); (try clear hk); (try clear hi); (try clear ho0)) | ((with_reducible refine gate_callee (f := 13) rfl ?_); refine goesL_ (some 57) rfl rfl Tryd.func13 (by kernel_rfl) rfl #[.string (⟨#[5, 1]⟩ : ByteArray)] rfl aO ?_; (with_reducible refine (key_Get.calls k (⟨#[5, 1]⟩ : ByteArray) t373 t374 _ A8.out).mono ?_); rintro e w49 ⟨v375, rfl, ho0, hb⟩; refine ⟨_, rfl, ?_⟩; have HO376 := as_ (Kd.R_lower (Kd.R_newB (Kd.R_new' (Kd.R_new' (Kd.R_new' (Kd.R_new' (Kd.R_new' (Kd.R_new' ho0 (Kd.R_lt (by (with_reducible repeat (first | apply Kd.R_alloc | apply Kd.R_drewN | apply Kd.R_drew)); exact HO347.out))) (Kd.R_lt (by (with_reducible repeat (first | apply Kd.R_alloc | apply Kd.R_drewN | apply Kd.R_drew)); exact HO354.out))) (Kd.R_lt (by (with_reducible repeat (first | apply Kd.R_alloc | apply Kd.R_drewN | apply Kd.R_drew)); exact HO360.out))) (Kd.R_lt (by (with_reducible repeat (first | apply Kd.R_alloc | apply Kd.R_drewN | apply Kd.R_drew)); exact HO364.out))) (Kd.R_lt (by (with_reducible repeat (first | apply Kd.R_alloc | apply Kd.R_drewN | apply Kd.R_drew)); exact HO368.out))) (Kd.R_lt (by (with_reducible repeat (first | apply Kd.R_alloc | apply Kd.R_drewN | apply Kd.R_drew)); exact HO372.out))) (g := gb344) (o := .cells #[.int .i64 1, .int .i64 0, .int .u64 1, .string (⟨#[]⟩ : ByteArray)] 51 (0, 0)) (bk BK344)) (below_size bA)); replace HO347 := as_ (Kd.R_elder' (by (with_reducible repeat (first | apply Kd.R_alloc | apply Kd.R_drewN | apply Kd.R_drew)); exact HO347.out) (Kd.R_base ho0) hb); replace HO354 := as_ (Kd.R_elder' (by (with_reducible repeat (first | apply Kd.R_alloc | apply Kd.R_drewN | apply Kd.R_drew)); exact HO354.out) (Kd.R_base ho0) hb); replace HO360 := as_ (Kd.R_elder' (by (with_reducible repeat (first | apply Kd.R_alloc | apply Kd.R_drewN | apply Kd.R_drew)); exact HO360.out) (Kd.R_base ho0) hb); replace HO364 := as_ (Kd.R_elder' (by (with_reducible repeat (first | apply Kd.R_alloc | apply Kd.R_drewN | apply Kd.R_drew)); exact HO364.out) (Kd.R_base ho0) hb); replace HO368 := as_ (Kd.R_elder' (by (with_reducible repeat (first | apply Kd.R_alloc | apply Kd.R_drewN | apply Kd.R_drew)); exact HO368.out) (Kd.R_base ho0) hb); replace HO372 := as_ (Kd.R_elder' (by (with_reducible repeat (first | apply Kd.R_alloc | apply Kd.R_drewN | apply Kd.R_drew)); exact HO372.out) (Kd.R_base ho0) hb); replace BK344 := as_ (blk_below (g := gb344) (o := .cells #[.int .i64 1, .int .i64 0, .int .u64 1, .string (⟨#[]⟩ : ByteArray)] 51 (0, 0)) (bk BK344) hb); replace HB := as_ (below_step bA hb); (try clear hb); (try clear hb2); (try clear hk); (try clear hi); (try clear ho0)) | ((with_reducible refine gate_callee (f := 15) rfl ?_); refine goesL_ (some 61) rfl rfl Tryd.func15 (by kernel_rfl) rfl #[.string (⟨#[16, 33, 1]⟩ : ByteArray), .int .i64 1] rfl aO ?_; (with_reducible refine (key_Part.calls k (⟨#[16, 33, 1]⟩ : ByteArray) 1 t377 t378 _ A9.out).mono ?_); rintro e w50 ⟨rfl, hb⟩; refine ⟨_, rfl, ?_⟩; replace HO347 := as_ (Kd.R_below (by (with_reducible repeat (first | apply Kd.R_alloc | apply Kd.R_drewN | apply Kd.R_drew)); exact HO347.out) hb); replace HO354 := as_ (Kd.R_below (by (with_reducible repeat (first | apply Kd.R_alloc | apply Kd.R_drewN | apply Kd.R_drew)); exact HO354.out) hb); replace HO360 := as_ (Kd.R_below (by (with_reducible repeat (first | apply Kd.R_alloc | apply Kd.R_drewN | apply Kd.R_drew)); exact HO360.out) hb); replace HO364 := as_ (Kd.R_below (by (with_reducible repeat (first | apply Kd.R_alloc | apply Kd.R_drewN | apply Kd.R_drew)); exact HO364.out) hb); replace HO368 := as_ (Kd.R_below (by (with_reducible repeat (first | apply Kd.R_alloc | apply Kd.R_drewN | apply Kd.R_drew)); exact HO368.out) hb); replace HO372 := as_ (Kd.R_below (by (with_reducible repeat (first | apply Kd.R_alloc | apply Kd.R_drewN | apply Kd.R_drew)); exact HO372.out) hb); replace HO376 := as_ (Kd.R_below (by (with_reducible repeat (first | apply Kd.R_alloc | apply Kd.R_drewN | apply Kd.R_drew)); exact HO376.out) hb); replace BK344 := as_ (blk_below (g := gb344) (o := .cells #[.int .i64 1, .int .i64 0, .int .u64 1, .string (⟨#[]⟩ : ByteArray)] 51 (0, 0)) (bk BK344) hb); replace HB := as_ (below_step bA hb); (try clear hb); (try clear hb2); (try clear hk); (try clear hi)) | ((with_reducible refine gate_callee (f := 15) rfl ?_); refine goesL_ (some 65) rfl rfl Tryd.func15 (by kernel_rfl) rfl #[.string (⟨#[16, 33, 1]⟩ : ByteArray), .int .i64 3] rfl aO ?_; (with_reducible refine (key_Part.calls k (⟨#[16, 33, 1]⟩ : ByteArray) 3 t379 t380 _ A10.out).mono ?_); rintro e w51 ⟨rfl, hb⟩; refine ⟨_, rfl, ?_⟩; replace HO347 := as_ (Kd.R_below (by (with_reducible repeat (first | apply Kd.R_alloc | apply Kd.R_drewN | apply Kd.R_drew)); exact HO347.out) hb); replace HO354 := as_ (Kd.R_below (by (with_reducible repeat (first | apply Kd.R_alloc | apply Kd.R_drewN | apply Kd.R_drew)); exact HO354.out) hb); replace HO360 := as_ (Kd.R_below (by (with_reducible repeat (first | apply Kd.R_alloc | apply Kd.R_drewN | apply Kd.R_drew)); exact HO360.out) hb); replace HO364 := as_ (Kd.R_below (by (with_reducible repeat (first | apply Kd.R_alloc | apply Kd.R_drewN | apply Kd.R_drew)); exact HO364.out) hb); replace HO368 := as_ (Kd.R_below (by (with_reducible repeat (first | apply Kd.R_alloc | apply Kd.R_drewN | apply Kd.R_drew)); exact HO368.out) hb); replace HO372 := as_ (Kd.R_below (by (with_reducible repeat (first | apply Kd.R_alloc | apply Kd.R_drewN | apply Kd.R_drew)); exact HO372.out) hb); replace HO376 := as_ (Kd.R_below (by (with_reducible repeat (first | apply Kd.R_alloc | apply Kd.R_drewN | apply Kd.R_drew)); exact HO376.out) hb); replace BK344 := as_ (blk_below (g := gb344) (o := .cells #[.int .i64 1, .int .i64 0, .int .u64 1, .string (⟨#[]⟩ : ByteArray)] 51 (0, 0)) (bk BK344) hb); replace HB := as_ (below_step bA hb); (try clear hb); (try clear hb2); (try clear hk); (try clear hi); obtain ⟨Ao52, co52, eo52⟩ := Kd.R_slice HO360.out; subst eo52) | (go_at_call 12; (with_reducible refine (withylaw04_Ref.calls k _ _ t357 t381 _ ?side1 ?side2 A16.out).mono ?_); (case side1 => repeat (first | exact (Kd.R_reads' HO360.out).2.2 | (with_reducible refine Kd.C_alloc ?_ _) | (with_reducible refine Kd.C_drewN ?_ _) | (with_reducible refine Kd.C_drew ?_))); (case side2 => exact (Kd.R_reads' HO360.out).2.1); rintro e w53 ⟨v382, rfl, ho0, hb⟩; have HO383 := as_ (Kd.R_lower ho0 (below_size bA)); replace HO347 := as_ (Kd.R_below (by (with_reducible repeat (first | apply Kd.R_alloc | apply Kd.R_drewN | apply Kd.R_drew)); exact HO347.out) hb); replace HO354 := as_ (Kd.R_below (by (with_reducible repeat (first | apply Kd.R_alloc | apply Kd.R_drewN | apply Kd.R_drew)); exact HO354.out) hb); replace HO360 := as_ (Kd.R_below (by (with_reducible repeat (first | apply Kd.R_alloc | apply Kd.R_drewN | apply Kd.R_drew)); exact HO360.out) hb); replace HO364 := as_ (Kd.R_below (by (with_reducible repeat (first | apply Kd.R_alloc | apply Kd.R_drewN | apply Kd.R_drew)); exact HO364.out) hb); replace HO368 := as_ (Kd.R_below (by (with_reducible repeat (first | apply Kd.R_alloc | apply Kd.R_drewN | apply Kd.R_drew)); exact HO368.out) hb); replace HO372 := as_ (Kd.R_below (by (with_reducible repeat (first | apply Kd.R_alloc | apply Kd.R_drewN | apply Kd.R_drew)); exact HO372.out) hb); replace HO376 := as_ (Kd.R_below (by (with_reducible repeat (first | apply Kd.R_alloc | apply Kd.R_drewN | apply Kd.R_drew)); exact HO376.out) hb); replace BK344 := as_ (blk_below (g := gb344) (o := .cells #[.int .i64 1, .int .i64 0, .int .u64 1, .string (⟨#[]⟩ : ByteArray)] 51 (0, 0)) (bk BK344) hb); replace HB := as_ (below_step bA hb); (try clear hb); (try clear hb2); (try clear hk); (try clear hi); (try clear ho0)) | ((with_reducible refine gate_dst (N := 91) rfl ?_); (try (refine gate_guard (by rfl) ?_; dsimp only)); refine Kd.R_lit k56 _ 56 ?hg (N := 91) ?hd (xs := ([(⟨0, 0, 0, (⟨#[]⟩ : ByteArray)⟩ : S56), (⟨1, 0, 1, (⟨#[]⟩ : ByteArray)⟩ : S56)] : List (S56))) (inner := [.int .i64 0, .int .i64 0, .int .u64 0, .string (⟨#[]⟩ : ByteArray), .int .i64 1, .int .i64 0, .int .u64 1, .string (⟨#[]⟩ : ByteArray)]) (ok := fun _ => True) (okp := fun _ => True) ?hr ?hp (fun _ hk => hk) trivial (Below.refl _ _) (Nat.le_refl _) (by simp) ?_; (case hd => rfl); (case hg => rfl); (case hr => first | (go_simp; done) | (go_simp; rfl)); (case hp => exact (Reps.c4 (show Kd.M k56 _ _ _ (⟨0, 0, 0, (⟨#[]⟩ : ByteArray)⟩ : S56) [.int .i64 0, .int .i64 0, .int .u64 0, .string (⟨#[]⟩ : ByteArray)] from (k56_mkM _ _ _ (⟨0, 0, 0, (⟨#[]⟩ : ByteArray)⟩ : S56) )) (Reps.c4 (show Kd.M k56 _ _ _ (⟨1, 0, 1, (⟨#[]⟩ : ByteArray)⟩ : S56) [.int .i64 1, .int .i64 0, .int .u64 1, .string (⟨#[]⟩ : ByteArray)] from (k56_mkM _ _ _ (⟨1, 0, 1, (⟨#[]⟩ : ByteArray)⟩ : S56) )) (Reps.none _ _)))); intro v385 w54 ho55 hb hg_ hnew_; clear hg_ hnew_; (first | rw [← Ny384.out] at ho55 | (simp only [Int.reduceToNat] at ho55; rw [← Ny384.out] at ho55)); have HO386 := as_ (Kd.R_lower (Kd.R_new' ho55 (Kd.R_lt (by (with_reducible repeat (first | apply Kd.R_alloc | apply Kd.R_drewN | apply Kd.R_drew)); exact HO383.out))) (below_size bA)); replace HO347 := as_ (Kd.R_below (by (with_reducible repeat (first | apply Kd.R_alloc | apply Kd.R_drewN | apply Kd.R_drew)); exact HO347.out) hb); replace HO354 := as_ (Kd.R_below (by (with_reducible repeat (first | apply Kd.R_alloc | apply Kd.R_drewN | apply Kd.R_drew)); exact HO354.out) hb); replace HO360 := as_ (Kd.R_below (by (with_reducible repeat (first | apply Kd.R_alloc | apply Kd.R_drewN | apply Kd.R_drew)); exact HO360.out) hb); replace HO364 := as_ (Kd.R_below (by (with_reducible repeat (first | apply Kd.R_alloc | apply Kd.R_drewN | apply Kd.R_drew)); exact HO364.out) hb); replace HO368 := as_ (Kd.R_below (by (with_reducible repeat (first | apply Kd.R_alloc | apply Kd.R_drewN | apply Kd.R_drew)); exact HO368.out) hb); replace HO372 := as_ (Kd.R_below (by (with_reducible repeat (first | apply Kd.R_alloc | apply Kd.R_drewN | apply Kd.R_drew)); exact HO372.out) hb); replace HO376 := as_ (Kd.R_below (by (with_reducible repeat (first | apply Kd.R_alloc | apply Kd.R_drewN | apply Kd.R_drew)); exact HO376.out) hb); replace HO383 := as_ (Kd.R_elder' (by (with_reducible repeat (first | apply Kd.R_alloc | apply Kd.R_drewN | apply Kd.R_drew)); exact HO383.out) (Kd.R_base ho55) hb); replace BK344 := as_ (blk_below (g := gb344) (o := .cells #[.int .i64 1, .int .i64 0, .int .u64 1, .string (⟨#[]⟩ : ByteArray)] 51 (0, 0)) (bk BK344) hb); replace HB := as_ (below_step bA hb); clear hb ho55; obtain ⟨Ao56, co56, eo56⟩ := Kd.R_slice HO383.out; subst eo56; obtain ⟨Ao57, co57, eo57⟩ := Kd.R_slice HO386.out; subst eo57) | (go_at_call 20; (with_reducible refine (withyref04_Same.calls k _ _ t381 _ _ y384 true _ ?side1 ?side2 ?side3 ?side4 A17.out).mono ?_); (case side1 => repeat (first | exact (Kd.R_reads' HO383.out).2.2 | (with_reducible refine Kd.C_alloc ?_ _) | (with_reducible refine Kd.C_drewN ?_ _) | (with_reducible refine Kd.C_drew ?_))); (case side2 => exact (Kd.R_reads' HO383.out).2.1); (case side3 => repeat (first | exact (Kd.R_reads' HO386.out).2.2 | (with_reducible refine Kd.C_alloc ?_ _) | (with_reducible refine Kd.C_drewN ?_ _) | (with_reducible refine Kd.C_drew ?_))); (case side4 => exact (Kd.R_reads' HO386.out).2.1); rintro e w' ⟨rfl, ⟨nd, rfl⟩⟩; obtain ⟨Ao58, co58, eo58⟩ := Kd.R_slice HO364.out; subst eo58; have q59 : (1 : Int) ≤ ((t357.length : Int) : Int) := of_decide_eq_true aM; obtain ⟨i059, hi059, _, hsz59, _⟩ := info_parts info51; have hroom59 : t357.length ≤ co52 := (Kd.R_reads' HO360.out).2.1; have hC59 : Kd.C k51 _ Ao52 t357.length t357 := (Kd.R_reads' HO360.out).2.2; have hcut59 := cut_to (P := Tryd.prog) 22 51 .i64 Tryd.underlying22 hi059 Ao52 t357.length co52 1 (by omega) q59 hroom59; have hr59 := Kd.C_take (m := 1) hC59 (by omega); have hy59 : y388.length = (1 : Int).toNat := (by rw [Ny388.out, List.length_take]; omega); rw [← Ny388.out] at hr59; rw [← hy59] at hcut59; have HR391 := Aside0.mk hr59; have HC391 := as_ (show y388.length ≤ co52 from by omega); clear hr59 hC59 hroom59 hi059 hsz59; have KY59 := Aside0.mk hy59; clear hy59; have KL59 := as_ (show 1 ≤ t357.length from by omega); replace q59 := eq_true q59) | (go_at_call 18; (with_reducible refine (key_Compare.calls k _ _ t357 _ _ y388 t392 _ ?side1 ?side2 ?side3 ?side4 A29.out).mono ?_); (case side1 => repeat (first | exact (Kd.R_reads' HO360.out).2.2 | (with_reducible refine Kd.C_alloc ?_ _) | (with_reducible refine Kd.C_drewN ?_ _) | (with_reducible refine Kd.C_drew ?_))); (case side2 => exact (Kd.R_reads' HO360.out).2.1); (case side3 => repeat (first | exact (by repeat (first | (with_reducible exact HR391.out) | (with_reducible refine Kd.C_alloc ?_ _) | (with_reducible refine Kd.C_drewN ?_ _) | (with_reducible refine Kd.C_drew ?_) | exact HR391.out)) | (with_reducible refine Kd.C_alloc ?_ _) | (with_reducible refine Kd.C_drewN ?_ _) | (with_reducible refine Kd.C_drew ?_))); (case side4 => exact HC391.out); rintro e w60 ⟨rfl, hb⟩; replace HO347 := as_ (Kd.R_below (by (with_reducible repeat (first | apply Kd.R_alloc | apply Kd.R_drewN | apply Kd.R_drew)); exact HO347.out) hb); replace HO354 := as_ (Kd.R_below (by (with_reducible repeat (first | apply Kd.R_alloc | apply Kd.R_drewN | apply Kd.R_drew)); exact HO354.out) hb); replace HO360 := as_ (Kd.R_below (by (with_reducible repeat (first | apply Kd.R_alloc | apply Kd.R_drewN | apply Kd.R_drew)); exact HO360.out) hb); replace HO364 := as_ (Kd.R_below (by (with_reducible repeat (first | apply Kd.R_alloc | apply Kd.R_drewN | apply Kd.R_drew)); exact HO364.out) hb); replace HO368 := as_ (Kd.R_below (by (with_reducible repeat (first | apply Kd.R_alloc | apply Kd.R_drewN | apply Kd.R_drew)); exact HO368.out) hb); replace HO372 := as_ (Kd.R_below (by (with_reducible repeat (first | apply Kd.R_alloc | apply Kd.R_drewN | apply Kd.R_drew)); exact HO372.out) hb); replace HO376 := as_ (Kd.R_below (by (with_reducible repeat (first | apply Kd.R_alloc | apply Kd.R_drewN | apply Kd.R_drew)); exact HO376.out) hb); replace HO383 := as_ (Kd.R_below (by (with_reducible repeat (first | apply Kd.R_alloc | apply Kd.R_drewN | apply Kd.R_drew)); exact HO383.out) hb); replace HO386 := as_ (Kd.R_below (by (with_reducible repeat (first | apply Kd.R_alloc | apply Kd.R_drewN | apply Kd.R_drew)); exact HO386.out) hb); replace BK344 := as_ (blk_below (g := gb344) (o := .cells #[.int .i64 1, .int .i64 0, .int .u64 1, .string (⟨#[]⟩ : ByteArray)] 51 (0, 0)) (bk BK344) hb); replace HR391 := as_ (Kd.C_below (by repeat (first | (with_reducible exact HR391.out) | (with_reducible refine Kd.C_alloc ?_ _) | (with_reducible refine Kd.C_drewN ?_ _) | (with_reducible refine Kd.C_drew ?_) | exact HR391.out)) hb); replace HB := as_ (below_step bA hb); (try clear hb); (try clear hb2); (try clear hk); (try clear hi)) | (go_at_call 18; (with_reducible show Calls _ _ #[Value.slice none 0 0, _] _ _); (refine (key_Compare.calls k _ _ ([] : List (S51)) _ _ t357 t393 _ ?side1 ?side2 ?side3 ?side4 A31.out).mono ?_); (case side1 => exact Kd.C_nil _ _); (case side2 => exact Nat.le_refl _); (case side3 => repeat (first | exact (Kd.R_reads' HO360.out).2.2 | (with_reducible refine Kd.C_alloc ?_ _) | (with_reducible refine Kd.C_drewN ?_ _) | (with_reducible refine Kd.C_drew ?_))); (case side4 => exact (Kd.R_reads' HO360.out).2.1); rintro e w61 ⟨rfl, hb⟩; replace HO347 := as_ (Kd.R_below (by (with_reducible repeat (first | apply Kd.R_alloc | apply Kd.R_drewN | apply Kd.R_drew)); exact HO347.out) hb); replace HO354 := as_ (Kd.R_below (by (with_reducible repeat (first | apply Kd.R_alloc | apply Kd.R_drewN | apply Kd.R_drew)); exact HO354.out) hb); replace HO360 := as_ (Kd.R_below (by (with_reducible repeat (first | apply Kd.R_alloc | apply Kd.R_drewN | apply Kd.R_drew)); exact HO360.out) hb); replace HO364 := as_ (Kd.R_below (by (with_reducible repeat (first | apply Kd.R_alloc | apply Kd.R_drewN | apply Kd.R_drew)); exact HO364.out) hb); replace HO368 := as_ (Kd.R_below (by (with_reducible repeat (first | apply Kd.R_alloc | apply Kd.R_drewN | apply Kd.R_drew)); exact HO368.out) hb); replace HO372 := as_ (Kd.R_below (by (with_reducible repeat (first | apply Kd.R_alloc | apply Kd.R_drewN | apply Kd.R_drew)); exact HO372.out) hb); replace HO376 := as_ (Kd.R_below (by (with_reducible repeat (first | apply Kd.R_alloc | apply Kd.R_drewN | apply Kd.R_drew)); exact HO376.out) hb); replace HO383 := as_ (Kd.R_below (by (with_reducible repeat (first | apply Kd.R_alloc | apply Kd.R_drewN | apply Kd.R_drew)); exact HO383.out) hb); replace HO386 := as_ (Kd.R_below (by (with_reducible repeat (first | apply Kd.R_alloc | apply Kd.R_drewN | apply Kd.R_drew)); exact HO386.out) hb); replace BK344 := as_ (blk_below (g := gb344) (o := .cells #[.int .i64 1, .int .i64 0, .int .u64 1, .string (⟨#[]⟩ : ByteArray)] 51 (0, 0)) (bk BK344) hb); replace HR391 := as_ (Kd.C_below (by repeat (first | (with_reducible exact HR391.out) | (with_reducible refine Kd.C_alloc ?_ _) | (with_reducible refine Kd.C_drewN ?_ _) | (with_reducible refine Kd.C_drew ?_) | exact HR391.out)) hb); replace HB := as_ (below_step bA hb); (try clear hb); (try clear hb2); (try clear hk); (try clear hi)) | (go_at_call 18; (with_reducible refine (key_Compare.calls k _ _ t357 _ _ t357 t394 _ ?side1 ?side2 ?side3 ?side4 A33.out).mono ?_); (case side1 => repeat (first | exact (Kd.R_reads' HO360.out).2.2 | (with_reducible refine Kd.C_alloc ?_ _) | (with_reducible refine Kd.C_drewN ?_ _) | (with_reducible refine Kd.C_drew ?_))); (case side2 => exact (Kd.R_reads' HO360.out).2.1); (case side3 => repeat (first | exact (Kd.R_reads' HO360.out).2.2 | (with_reducible refine Kd.C_alloc ?_ _) | (with_reducible refine Kd.C_drewN ?_ _) | (with_reducible refine Kd.C_drew ?_))); (case side4 => exact (Kd.R_reads' HO360.out).2.1); rintro e w62 ⟨rfl, hb⟩; replace HO347 := as_ (Kd.R_below (by (with_reducible repeat (first | apply Kd.R_alloc | apply Kd.R_drewN | apply Kd.R_drew)); exact HO347.out) hb); replace HO354 := as_ (Kd.R_below (by (with_reducible repeat (first | apply Kd.R_alloc | apply Kd.R_drewN | apply Kd.R_drew)); exact HO354.out) hb); replace HO360 := as_ (Kd.R_below (by (with_reducible repeat (first | apply Kd.R_alloc | apply Kd.R_drewN | apply Kd.R_drew)); exact HO360.out) hb); replace HO364 := as_ (Kd.R_below (by (with_reducible repeat (first | apply Kd.R_alloc | apply Kd.R_drewN | apply Kd.R_drew)); exact HO364.out) hb); replace HO368 := as_ (Kd.R_below (by (with_reducible repeat (first | apply Kd.R_alloc | apply Kd.R_drewN | apply Kd.R_drew)); exact HO368.out) hb); replace HO372 := as_ (Kd.R_below (by (with_reducible repeat (first | apply Kd.R_alloc | apply Kd.R_drewN | apply Kd.R_drew)); exact HO372.out) hb); replace HO376 := as_ (Kd.R_below (by (with_reducible repeat (first | apply Kd.R_alloc | apply Kd.R_drewN | apply Kd.R_drew)); exact HO376.out) hb); replace HO383 := as_ (Kd.R_below (by (with_reducible repeat (first | apply Kd.R_alloc | apply Kd.R_drewN | apply Kd.R_drew)); exact HO383.out) hb); replace HO386 := as_ (Kd.R_below (by (with_reducible repeat (first | apply Kd.R_alloc | apply Kd.R_drewN | apply Kd.R_drew)); exact HO386.out) hb); replace BK344 := as_ (blk_below (g := gb344) (o := .cells #[.int .i64 1, .int .i64 0, .int .u64 1, .string (⟨#[]⟩ : ByteArray)] 51 (0, 0)) (bk BK344) hb); replace HR391 := as_ (Kd.C_below (by repeat (first | (with_reducible exact HR391.out) | (with_reducible refine Kd.C_alloc ?_ _) | (with_reducible refine Kd.C_drewN ?_ _) | (with_reducible refine Kd.C_drew ?_) | exact HR391.out)) hb); replace HB := as_ (below_step bA hb); (try clear hb); (try clear hb2); (try clear hk); (try clear hi)))
 go_ret
 exact ⟨eW, by repeat (first | (with_reducible first | exact HB.out | apply below_alloc | apply pw_below_drewN | apply below_drew1 | refine below_set ?_ GE344.out) | exact HB.out)⟩
/-! ### withylaw04_KeyTells: function 3 -/
def withylaw04_KeyTells.j0 : Nat → ByteArray → Int → ByteArray → Int → List (S51) → Int → List (S56) → Int → ByteArray → Int → ByteArray → Int → Bool → Option (Bool)
 | 0, _, _, _, _, _, _, _, _, _, _, _, _, _ => none
 | k + 1, x8, x9, x10, x11, x12, x13, x14, x15, x16, x17, x18, x19, x82 => if x82 = true then (none) else (if x8.toList = x10.toList then (if x9 = x11 then ((withylaw04_Ref.f k x12).bind fun t431 => ((withyref04_Same.f k t431 x14).bind fun t434 => (if t434 = true then (if x13 = x15 then (if x16.toList = x18.toList then (if x17 = x19 then ((withylaw04_fixed.f k).bind fun t435 => (some t435)) else (none)) else (none)) else (none)) else (none)))) else (none)) else (none))
def withylaw04_KeyTells.f (k : Nat) (l0 : List (S51)) (l1 : List (S51)) (a2_0 : ByteArray) (a2_1 : Int) : Option (Bool) := (withylaw04_Cut.f k l0).bind fun t396 => ((withylaw04_Cut.f k l1).bind fun t399 => (if 0 ≤ (mn (a2_0.size : Int) 200) then (if (mn (a2_0.size : Int) 200) ≤ (a2_0.size : Int) then ((key_Put.f k t396).bind fun bt402 => ((withylaw04_Ref.f k t396).bind fun t404 => ((withyref04_Put.f k t404).bind fun bt407 => ((key_Get.f k (a2_0.extract 0 ((mn (a2_0.size : Int) 200) : Int).toNat)).bind fun bt409 => ((withyref04_Get.f k (a2_0.extract 0 ((mn (a2_0.size : Int) 200) : Int).toNat)).bind fun bt413 => ((key_Part.f k (a2_0.extract 0 ((mn (a2_0.size : Int) 200) : Int).toNat) a2_1).bind fun bt417 => ((withyref04_Part.f k (a2_0.extract 0 ((mn (a2_0.size : Int) 200) : Int).toNat) a2_1).bind fun bt419 => ((withylaw04_right.f k t396).bind fun t421 => (if t421 = true then ((withylaw04_right.f k t399).bind fun t422 => (if t422 = true then ((key_Compare.f k t396 t399).bind fun t423 => ((withylaw04_Ref.f k t396).bind fun t424 => ((withylaw04_Ref.f k t399).bind fun t427 => ((withyref04_Compare.f k t424 t427).bind fun t430 => (withylaw04_KeyTells.j0 k bt402.1 bt402.2 bt407.1 bt407.2 bt409.1 bt409.2 bt413.1 bt413.2 bt417.1 bt417.2 bt419.1 bt419.2 (t423 != t430)))))) else (withylaw04_KeyTells.j0 k bt402.1 bt402.2 bt407.1 bt407.2 bt409.1 bt409.2 bt413.1 bt413.2 bt417.1 bt417.2 bt419.1 bt419.2 false))) else (withylaw04_KeyTells.j0 k bt402.1 bt402.2 bt407.1 bt407.2 bt409.1 bt409.2 bt413.1 bt413.2 bt417.1 bt417.2 bt419.1 bt419.2 false)))))))))) else (none)) else (none)))
theorem withylaw04_KeyTells.mono_l : ∀ k, (∀ y0 y1 y2 y3 y4 y5 y6 y7 y8 y9 y10 y11 y12, LeO (withylaw04_KeyTells.j0 k y0 y1 y2 y3 y4 y5 y6 y7 y8 y9 y10 y11 y12) (withylaw04_KeyTells.j0 (k + 1) y0 y1 y2 y3 y4 y5 y6 y7 y8 y9 y10 y11 y12))
 | 0 => fun _ _ _ _ _ _ _ _ _ _ _ _ _ r h => by simp [withylaw04_KeyTells.j0] at h
 | k + 1 => by
  have ih0 := withylaw04_KeyTells.mono_l k
  ·intro y0 y1 y2 y3 y4 y5 y6 y7 y8 y9 y10 y11 y12
   unfold withylaw04_KeyTells.j0
   repeat' first
   | (with_reducible exact ih0 _ _ _ _ _ _ _ _ _ _ _ _ _)
   | (with_reducible exact key_Compare.mono _ _ _)
   | (with_reducible exact key_Get.mono _ _)
   | (with_reducible exact key_Part.mono _ _ _)
   | (with_reducible exact key_Put.mono _ _)
   | (with_reducible exact withylaw04_Cut.mono _ _)
   | (with_reducible exact withylaw04_Ref.mono _ _)
   | (with_reducible exact withylaw04_fixed.mono _)
   | (with_reducible exact withylaw04_right.mono _ _)
   | (with_reducible exact withyref04_Compare.mono _ _ _)
   | (with_reducible exact withyref04_Get.mono _ _)
   | (with_reducible exact withyref04_Part.mono _ _ _)
   | (with_reducible exact withyref04_Put.mono _ _)
   | (with_reducible exact withyref04_Same.mono _ _ _)
   | (with_reducible exact LeO.refl _)
   | (with_reducible exact LeO.none _)
   | (with_reducible refine LeO.ite ?_ ?_)
   | (with_reducible refine LeO.bind ?_ (fun _ => ?_))
   | exact ih0 _ _ _ _ _ _ _ _ _ _ _ _ _
   | exact key_Compare.mono _ _ _
   | exact key_Get.mono _ _
   | exact key_Part.mono _ _ _
   | exact key_Put.mono _ _
   | exact withylaw04_Cut.mono _ _
   | exact withylaw04_Ref.mono _ _
   | exact withylaw04_fixed.mono _
   | exact withylaw04_right.mono _ _
   | exact withyref04_Compare.mono _ _ _
   | exact withyref04_Get.mono _ _
   | exact withyref04_Part.mono _ _ _
   | exact withyref04_Put.mono _ _
   | exact withyref04_Same.mono _ _ _
   | exact LeO.none _
   | refine LeO.ite ?_ ?_
   | refine LeO.bind ?_ (fun _ => ?_)
theorem withylaw04_KeyTells.mono : ∀ a0 a1 a2 a3 k, LeO (withylaw04_KeyTells.f k a0 a1 a2 a3) (withylaw04_KeyTells.f (k + 1) a0 a1 a2 a3) := by
 intro a0 a1 a2 a3 k
 have ih0 := withylaw04_KeyTells.mono_l k
 unfold withylaw04_KeyTells.f
 repeat' first
   | (with_reducible exact ih0 _ _ _ _ _ _ _ _ _ _ _ _ _)
   | (with_reducible exact key_Compare.mono _ _ _)
   | (with_reducible exact key_Get.mono _ _)
   | (with_reducible exact key_Part.mono _ _ _)
   | (with_reducible exact key_Put.mono _ _)
   | (with_reducible exact withylaw04_Cut.mono _ _)
   | (with_reducible exact withylaw04_Ref.mono _ _)
   | (with_reducible exact withylaw04_fixed.mono _)
   | (with_reducible exact withylaw04_right.mono _ _)
   | (with_reducible exact withyref04_Compare.mono _ _ _)
   | (with_reducible exact withyref04_Get.mono _ _)
   | (with_reducible exact withyref04_Part.mono _ _ _)
   | (with_reducible exact withyref04_Put.mono _ _)
   | (with_reducible exact withyref04_Same.mono _ _ _)
   | (with_reducible exact LeO.refl _)
   | (with_reducible exact LeO.none _)
   | (with_reducible refine LeO.ite ?_ ?_)
   | (with_reducible refine LeO.bind ?_ (fun _ => ?_))
   | exact ih0 _ _ _ _ _ _ _ _ _ _ _ _ _
   | exact key_Compare.mono _ _ _
   | exact key_Get.mono _ _
   | exact key_Part.mono _ _ _
   | exact key_Put.mono _ _
   | exact withylaw04_Cut.mono _ _
   | exact withylaw04_Ref.mono _ _
   | exact withylaw04_fixed.mono _
   | exact withylaw04_right.mono _ _
   | exact withyref04_Compare.mono _ _ _
   | exact withyref04_Get.mono _ _
   | exact withyref04_Part.mono _ _ _
   | exact withyref04_Put.mono _ _
   | exact withyref04_Same.mono _ _ _
   | exact LeO.none _
   | refine LeO.ite ?_ ?_
   | refine LeO.bind ?_ (fun _ => ?_)
set_option maxHeartbeats 8000000 in
set_option maxRecDepth 100000 in
theorem withylaw04_KeyTells.calls (k : Nat) (A0 : Option Addr) (c0 : Nat) (l0 : List (S51)) (A1 : Option Addr) (c1 : Nat) (l1 : List (S51)) (a2_0 : ByteArray) (a2_1 : Int) (r : Bool) (w : World) (hr0 : Kd.C k51 w A0 l0.length l0) (hc0 : l0.length ≤ c0) (hr1 : Kd.C k51 w A1 l1.length l1) (hc1 : l1.length ≤ c1) (h : withylaw04_KeyTells.f k l0 l1 a2_0 a2_1 = some r) :
  Calls Tryd.prog 3 #[.slice A0 l0.length c0, .slice A1 l1.length c1, .agg #[.string a2_0, .int .i64 a2_1]] w fun e w' => e = .returned (.bool r) ∧ Below w.heap.size w w' := by
 have hu24 := Tryd.underlying24
 have HR0 := Aside0.mk hr0
 have HC0 := Aside0.mk hc0
 clear hr0 hc0
 have HR1 := Aside0.mk hr1
 have HC1 := Aside0.mk hc1
 clear hr1 hc1
 have HB := as_ (Below.refl w.heap.size w)
 have H : ((withylaw04_Cut.f k l0).bind fun t396 => ((withylaw04_Cut.f k l1).bind fun t399 => (if 0 ≤ (mn (a2_0.size : Int) 200) then (if (mn (a2_0.size : Int) 200) ≤ (a2_0.size : Int) then ((key_Put.f k t396).bind fun bt402 => ((withylaw04_Ref.f k t396).bind fun t404 => ((withyref04_Put.f k t404).bind fun bt407 => ((key_Get.f k (a2_0.extract 0 ((mn (a2_0.size : Int) 200) : Int).toNat)).bind fun bt409 => ((withyref04_Get.f k (a2_0.extract 0 ((mn (a2_0.size : Int) 200) : Int).toNat)).bind fun bt413 => ((key_Part.f k (a2_0.extract 0 ((mn (a2_0.size : Int) 200) : Int).toNat) a2_1).bind fun bt417 => ((withyref04_Part.f k (a2_0.extract 0 ((mn (a2_0.size : Int) 200) : Int).toNat) a2_1).bind fun bt419 => ((withylaw04_right.f k t396).bind fun t421 => (if t421 = true then ((withylaw04_right.f k t399).bind fun t422 => (if t422 = true then ((key_Compare.f k t396 t399).bind fun t423 => ((withylaw04_Ref.f k t396).bind fun t424 => ((withylaw04_Ref.f k t399).bind fun t427 => ((withyref04_Compare.f k t424 t427).bind fun t430 => (withylaw04_KeyTells.j0 k bt402.1 bt402.2 bt407.1 bt407.2 bt409.1 bt409.2 bt413.1 bt413.2 bt417.1 bt417.2 bt419.1 bt419.2 (t423 != t430)))))) else (withylaw04_KeyTells.j0 k bt402.1 bt402.2 bt407.1 bt407.2 bt409.1 bt409.2 bt413.1 bt413.2 bt417.1 bt417.2 bt419.1 bt419.2 false))) else (withylaw04_KeyTells.j0 k bt402.1 bt402.2 bt407.1 bt407.2 bt409.1 bt409.2 bt413.1 bt413.2 bt417.1 bt417.2 bt419.1 bt419.2 false)))))))))) else (none)) else (none)))) = some r := h
 clear h
 replace H := bM H
 obtain ⟨t396, A40, H⟩ := H
 replace H : ((withylaw04_Cut.f k l1).bind fun t399 => (if 0 ≤ (mn (a2_0.size : Int) 200) then (if (mn (a2_0.size : Int) 200) ≤ (a2_0.size : Int) then ((key_Put.f k t396).bind fun bt402 => ((withylaw04_Ref.f k t396).bind fun t404 => ((withyref04_Put.f k t404).bind fun bt407 => ((key_Get.f k (a2_0.extract 0 ((mn (a2_0.size : Int) 200) : Int).toNat)).bind fun bt409 => ((withyref04_Get.f k (a2_0.extract 0 ((mn (a2_0.size : Int) 200) : Int).toNat)).bind fun bt413 => ((key_Part.f k (a2_0.extract 0 ((mn (a2_0.size : Int) 200) : Int).toNat) a2_1).bind fun bt417 => ((withyref04_Part.f k (a2_0.extract 0 ((mn (a2_0.size : Int) 200) : Int).toNat) a2_1).bind fun bt419 => ((withylaw04_right.f k t396).bind fun t421 => (if t421 = true then ((withylaw04_right.f k t399).bind fun t422 => (if t422 = true then ((key_Compare.f k t396 t399).bind fun t423 => ((withylaw04_Ref.f k t396).bind fun t424 => ((withylaw04_Ref.f k t399).bind fun t427 => ((withyref04_Compare.f k t424 t427).bind fun t430 => (withylaw04_KeyTells.j0 k bt402.1 bt402.2 bt407.1 bt407.2 bt409.1 bt409.2 bt413.1 bt413.2 bt417.1 bt417.2 bt419.1 bt419.2 (t423 != t430)))))) else (withylaw04_KeyTells.j0 k bt402.1 bt402.2 bt407.1 bt407.2 bt409.1 bt409.2 bt413.1 bt413.2 bt417.1 bt417.2 bt419.1 bt419.2 false))) else (withylaw04_KeyTells.j0 k bt402.1 bt402.2 bt407.1 bt407.2 bt409.1 bt409.2 bt413.1 bt413.2 bt417.1 bt417.2 bt419.1 bt419.2 false)))))))))) else (none)) else (none))) = some r := H
 have A4 := Aside0.mk A40
 clear A40
 replace H := bM H
 obtain ⟨t399, A50, H⟩ := H
 replace H : (if 0 ≤ (mn (a2_0.size : Int) 200) then (if (mn (a2_0.size : Int) 200) ≤ (a2_0.size : Int) then ((key_Put.f k t396).bind fun bt402 => ((withylaw04_Ref.f k t396).bind fun t404 => ((withyref04_Put.f k t404).bind fun bt407 => ((key_Get.f k (a2_0.extract 0 ((mn (a2_0.size : Int) 200) : Int).toNat)).bind fun bt409 => ((withyref04_Get.f k (a2_0.extract 0 ((mn (a2_0.size : Int) 200) : Int).toNat)).bind fun bt413 => ((key_Part.f k (a2_0.extract 0 ((mn (a2_0.size : Int) 200) : Int).toNat) a2_1).bind fun bt417 => ((withyref04_Part.f k (a2_0.extract 0 ((mn (a2_0.size : Int) 200) : Int).toNat) a2_1).bind fun bt419 => ((withylaw04_right.f k t396).bind fun t421 => (if t421 = true then ((withylaw04_right.f k t399).bind fun t422 => (if t422 = true then ((key_Compare.f k t396 t399).bind fun t423 => ((withylaw04_Ref.f k t396).bind fun t424 => ((withylaw04_Ref.f k t399).bind fun t427 => ((withyref04_Compare.f k t424 t427).bind fun t430 => (withylaw04_KeyTells.j0 k bt402.1 bt402.2 bt407.1 bt407.2 bt409.1 bt409.2 bt413.1 bt413.2 bt417.1 bt417.2 bt419.1 bt419.2 (t423 != t430)))))) else (withylaw04_KeyTells.j0 k bt402.1 bt402.2 bt407.1 bt407.2 bt409.1 bt409.2 bt413.1 bt413.2 bt417.1 bt417.2 bt419.1 bt419.2 false))) else (withylaw04_KeyTells.j0 k bt402.1 bt402.2 bt407.1 bt407.2 bt409.1 bt409.2 bt413.1 bt413.2 bt417.1 bt417.2 bt419.1 bt419.2 false)))))))))) else (none)) else (none)) = some r := H
 have A5 := Aside0.mk A50
 clear A50
 obtain ⟨ji6, hji6⟩ : ∃ j_ : Int, (mn (a2_0.size : Int) 200) = j_ := ⟨_, rfl⟩
 replace H : (if 0 ≤ (ji6) then (if (ji6) ≤ (a2_0.size : Int) then ((key_Put.f k t396).bind fun bt402 => ((withylaw04_Ref.f k t396).bind fun t404 => ((withyref04_Put.f k t404).bind fun bt407 => ((key_Get.f k (a2_0.extract 0 ((ji6) : Int).toNat)).bind fun bt409 => ((withyref04_Get.f k (a2_0.extract 0 ((ji6) : Int).toNat)).bind fun bt413 => ((key_Part.f k (a2_0.extract 0 ((ji6) : Int).toNat) a2_1).bind fun bt417 => ((withyref04_Part.f k (a2_0.extract 0 ((ji6) : Int).toNat) a2_1).bind fun bt419 => ((withylaw04_right.f k t396).bind fun t421 => (if t421 = true then ((withylaw04_right.f k t399).bind fun t422 => (if t422 = true then ((key_Compare.f k t396 t399).bind fun t423 => ((withylaw04_Ref.f k t396).bind fun t424 => ((withylaw04_Ref.f k t399).bind fun t427 => ((withyref04_Compare.f k t424 t427).bind fun t430 => (withylaw04_KeyTells.j0 k bt402.1 bt402.2 bt407.1 bt407.2 bt409.1 bt409.2 bt413.1 bt413.2 bt417.1 bt417.2 bt419.1 bt419.2 (t423 != t430)))))) else (withylaw04_KeyTells.j0 k bt402.1 bt402.2 bt407.1 bt407.2 bt409.1 bt409.2 bt413.1 bt413.2 bt417.1 bt417.2 bt419.1 bt419.2 false))) else (withylaw04_KeyTells.j0 k bt402.1 bt402.2 bt407.1 bt407.2 bt409.1 bt409.2 bt413.1 bt413.2 bt417.1 bt417.2 bt419.1 bt419.2 false)))))))))) else (none)) else (none)) = some r := by first | (rw [hji6] at H; exact H) | (simp only [hji6] at H ⊢; exact H)
 (try rw [hji6] at A4)
 (try rw [hji6] at A5)
 (try (have hji6h : ji6 ≤ 200 := by (rw [← hji6]; unfold mn; (repeat' split) <;> omega)))
 (try (have hji6g : ji6 ≤ 64 := by omega))
 (try (have hji6l : 0 ≤ ji6 := by (rw [← hji6]; unfold mn; (repeat' split) <;> omega)))
 (try (have hji6m : 0 ≤ ji6 := by omega))
 have hji6_ : (if 200 < (a2_0.size : Int) then 200 else (a2_0.size : Int)) = ji6 := hji6
 by_cases c7 : 0 ≤ (ji6)
 rotate_left
 ·rw [if_neg c7] at H
  exact absurd H (by simp)
 
 rw [if_pos c7] at H
 have c7b0 := eq_true c7
 have c7b1 : decide (0 ≤ (ji6)) = true := decide_eq_true c7
 clear c7
 by_cases c8 : (ji6) ≤ (a2_0.size : Int)
 rotate_left
 ·rw [if_neg c8] at H
  exact absurd H (by simp)
 rw [if_pos c8] at H
 have c8b0 := eq_true c8
 have c8b1 : decide ((ji6) ≤ (a2_0.size : Int)) = true := decide_eq_true c8
 clear c8
 obtain ⟨js9, hjs9⟩ : ∃ j_ : ByteArray, (a2_0.extract 0 ((ji6) : Int).toNat) = j_ := ⟨_, rfl⟩
 replace H : ((key_Put.f k t396).bind fun bt402 => ((withylaw04_Ref.f k t396).bind fun t404 => ((withyref04_Put.f k t404).bind fun bt407 => ((key_Get.f k (js9)).bind fun bt409 => ((withyref04_Get.f k (js9)).bind fun bt413 => ((key_Part.f k (js9) a2_1).bind fun bt417 => ((withyref04_Part.f k (js9) a2_1).bind fun bt419 => ((withylaw04_right.f k t396).bind fun t421 => (if t421 = true then ((withylaw04_right.f k t399).bind fun t422 => (if t422 = true then ((key_Compare.f k t396 t399).bind fun t423 => ((withylaw04_Ref.f k t396).bind fun t424 => ((withylaw04_Ref.f k t399).bind fun t427 => ((withyref04_Compare.f k t424 t427).bind fun t430 => (withylaw04_KeyTells.j0 k bt402.1 bt402.2 bt407.1 bt407.2 bt409.1 bt409.2 bt413.1 bt413.2 bt417.1 bt417.2 bt419.1 bt419.2 (t423 != t430)))))) else (withylaw04_KeyTells.j0 k bt402.1 bt402.2 bt407.1 bt407.2 bt409.1 bt409.2 bt413.1 bt413.2 bt417.1 bt417.2 bt419.1 bt419.2 false))) else (withylaw04_KeyTells.j0 k bt402.1 bt402.2 bt407.1 bt407.2 bt409.1 bt409.2 bt413.1 bt413.2 bt417.1 bt417.2 bt419.1 bt419.2 false)))))))))) = some r := by first | (rw [hjs9] at H; exact H) | (simp only [hjs9] at H ⊢; exact H)
 (try rw [hjs9] at A4)
 (try rw [hjs9] at A5)
 replace H := bM H
 obtain ⟨⟨t402, t403⟩, A100, H⟩ := H
 replace H : ((withylaw04_Ref.f k t396).bind fun t404 => ((withyref04_Put.f k t404).bind fun bt407 => ((key_Get.f k (js9)).bind fun bt409 => ((withyref04_Get.f k (js9)).bind fun bt413 => ((key_Part.f k (js9) a2_1).bind fun bt417 => ((withyref04_Part.f k (js9) a2_1).bind fun bt419 => ((withylaw04_right.f k t396).bind fun t421 => (if t421 = true then ((withylaw04_right.f k t399).bind fun t422 => (if t422 = true then ((key_Compare.f k t396 t399).bind fun t423 => ((withylaw04_Ref.f k t396).bind fun t424 => ((withylaw04_Ref.f k t399).bind fun t427 => ((withyref04_Compare.f k t424 t427).bind fun t430 => (withylaw04_KeyTells.j0 k t402 t403 bt407.1 bt407.2 bt409.1 bt409.2 bt413.1 bt413.2 bt417.1 bt417.2 bt419.1 bt419.2 (t423 != t430)))))) else (withylaw04_KeyTells.j0 k t402 t403 bt407.1 bt407.2 bt409.1 bt409.2 bt413.1 bt413.2 bt417.1 bt417.2 bt419.1 bt419.2 false))) else (withylaw04_KeyTells.j0 k t402 t403 bt407.1 bt407.2 bt409.1 bt409.2 bt413.1 bt413.2 bt417.1 bt417.2 bt419.1 bt419.2 false))))))))) = some r := H
 have A10 := Aside0.mk A100
 clear A100
 replace H := bM H
 obtain ⟨t404, A110, H⟩ := H
 replace H : ((withyref04_Put.f k t404).bind fun bt407 => ((key_Get.f k (js9)).bind fun bt409 => ((withyref04_Get.f k (js9)).bind fun bt413 => ((key_Part.f k (js9) a2_1).bind fun bt417 => ((withyref04_Part.f k (js9) a2_1).bind fun bt419 => ((withylaw04_right.f k t396).bind fun t421 => (if t421 = true then ((withylaw04_right.f k t399).bind fun t422 => (if t422 = true then ((key_Compare.f k t396 t399).bind fun t423 => ((withylaw04_Ref.f k t396).bind fun t424 => ((withylaw04_Ref.f k t399).bind fun t427 => ((withyref04_Compare.f k t424 t427).bind fun t430 => (withylaw04_KeyTells.j0 k t402 t403 bt407.1 bt407.2 bt409.1 bt409.2 bt413.1 bt413.2 bt417.1 bt417.2 bt419.1 bt419.2 (t423 != t430)))))) else (withylaw04_KeyTells.j0 k t402 t403 bt407.1 bt407.2 bt409.1 bt409.2 bt413.1 bt413.2 bt417.1 bt417.2 bt419.1 bt419.2 false))) else (withylaw04_KeyTells.j0 k t402 t403 bt407.1 bt407.2 bt409.1 bt409.2 bt413.1 bt413.2 bt417.1 bt417.2 bt419.1 bt419.2 false)))))))) = some r := H
 have A11 := Aside0.mk A110
 clear A110
 replace H := bM H
 obtain ⟨⟨t407, t408⟩, A120, H⟩ := H
 replace H : ((key_Get.f k (js9)).bind fun bt409 => ((withyref04_Get.f k (js9)).bind fun bt413 => ((key_Part.f k (js9) a2_1).bind fun bt417 => ((withyref04_Part.f k (js9) a2_1).bind fun bt419 => ((withylaw04_right.f k t396).bind fun t421 => (if t421 = true then ((withylaw04_right.f k t399).bind fun t422 => (if t422 = true then ((key_Compare.f k t396 t399).bind fun t423 => ((withylaw04_Ref.f k t396).bind fun t424 => ((withylaw04_Ref.f k t399).bind fun t427 => ((withyref04_Compare.f k t424 t427).bind fun t430 => (withylaw04_KeyTells.j0 k t402 t403 t407 t408 bt409.1 bt409.2 bt413.1 bt413.2 bt417.1 bt417.2 bt419.1 bt419.2 (t423 != t430)))))) else (withylaw04_KeyTells.j0 k t402 t403 t407 t408 bt409.1 bt409.2 bt413.1 bt413.2 bt417.1 bt417.2 bt419.1 bt419.2 false))) else (withylaw04_KeyTells.j0 k t402 t403 t407 t408 bt409.1 bt409.2 bt413.1 bt413.2 bt417.1 bt417.2 bt419.1 bt419.2 false))))))) = some r := H
 have A12 := Aside0.mk A120
 clear A120
 replace H := bM H
 obtain ⟨⟨t409, t410⟩, A130, H⟩ := H
 replace H : ((withyref04_Get.f k (js9)).bind fun bt413 => ((key_Part.f k (js9) a2_1).bind fun bt417 => ((withyref04_Part.f k (js9) a2_1).bind fun bt419 => ((withylaw04_right.f k t396).bind fun t421 => (if t421 = true then ((withylaw04_right.f k t399).bind fun t422 => (if t422 = true then ((key_Compare.f k t396 t399).bind fun t423 => ((withylaw04_Ref.f k t396).bind fun t424 => ((withylaw04_Ref.f k t399).bind fun t427 => ((withyref04_Compare.f k t424 t427).bind fun t430 => (withylaw04_KeyTells.j0 k t402 t403 t407 t408 t409 t410 bt413.1 bt413.2 bt417.1 bt417.2 bt419.1 bt419.2 (t423 != t430)))))) else (withylaw04_KeyTells.j0 k t402 t403 t407 t408 t409 t410 bt413.1 bt413.2 bt417.1 bt417.2 bt419.1 bt419.2 false))) else (withylaw04_KeyTells.j0 k t402 t403 t407 t408 t409 t410 bt413.1 bt413.2 bt417.1 bt417.2 bt419.1 bt419.2 false)))))) = some r := H
 have A13 := Aside0.mk A130
 clear A130
 replace H := bM H
 obtain ⟨⟨t413, t414⟩, A140, H⟩ := H
 replace H : ((key_Part.f k (js9) a2_1).bind fun bt417 => ((withyref04_Part.f k (js9) a2_1).bind fun bt419 => ((withylaw04_right.f k t396).bind fun t421 => (if t421 = true then ((withylaw04_right.f k t399).bind fun t422 => (if t422 = true then ((key_Compare.f k t396 t399).bind fun t423 => ((withylaw04_Ref.f k t396).bind fun t424 => ((withylaw04_Ref.f k t399).bind fun t427 => ((withyref04_Compare.f k t424 t427).bind fun t430 => (withylaw04_KeyTells.j0 k t402 t403 t407 t408 t409 t410 t413 t414 bt417.1 bt417.2 bt419.1 bt419.2 (t423 != t430)))))) else (withylaw04_KeyTells.j0 k t402 t403 t407 t408 t409 t410 t413 t414 bt417.1 bt417.2 bt419.1 bt419.2 false))) else (withylaw04_KeyTells.j0 k t402 t403 t407 t408 t409 t410 t413 t414 bt417.1 bt417.2 bt419.1 bt419.2 false))))) = some r := H
 have A14 := Aside0.mk A140
 clear A140
 replace H := bM H
 obtain ⟨⟨t417, t418⟩, A150, H⟩ := H
 replace H : ((withyref04_Part.f k (js9) a2_1).bind fun bt419 => ((withylaw04_right.f k t396).bind fun t421 => (if t421 = true then ((withylaw04_right.f k t399).bind fun t422 => (if t422 = true then ((key_Compare.f k t396 t399).bind fun t423 => ((withylaw04_Ref.f k t396).bind fun t424 => ((withylaw04_Ref.f k t399).bind fun t427 => ((withyref04_Compare.f k t424 t427).bind fun t430 => (withylaw04_KeyTells.j0 k t402 t403 t407 t408 t409 t410 t413 t414 t417 t418 bt419.1 bt419.2 (t423 != t430)))))) else (withylaw04_KeyTells.j0 k t402 t403 t407 t408 t409 t410 t413 t414 t417 t418 bt419.1 bt419.2 false))) else (withylaw04_KeyTells.j0 k t402 t403 t407 t408 t409 t410 t413 t414 t417 t418 bt419.1 bt419.2 false)))) = some r := H
 have A15 := Aside0.mk A150
 clear A150
 replace H := bM H
 obtain ⟨⟨t419, t420⟩, A160, H⟩ := H
 replace H : ((withylaw04_right.f k t396).bind fun t421 => (if t421 = true then ((withylaw04_right.f k t399).bind fun t422 => (if t422 = true then ((key_Compare.f k t396 t399).bind fun t423 => ((withylaw04_Ref.f k t396).bind fun t424 => ((withylaw04_Ref.f k t399).bind fun t427 => ((withyref04_Compare.f k t424 t427).bind fun t430 => (withylaw04_KeyTells.j0 k t402 t403 t407 t408 t409 t410 t413 t414 t417 t418 t419 t420 (t423 != t430)))))) else (withylaw04_KeyTells.j0 k t402 t403 t407 t408 t409 t410 t413 t414 t417 t418 t419 t420 false))) else (withylaw04_KeyTells.j0 k t402 t403 t407 t408 t409 t410 t413 t414 t417 t418 t419 t420 false))) = some r := H
 have A16 := Aside0.mk A160
 clear A160
 have HC17 := Aside0.mk H
 clear H
 go_enter Tryd.func3, Tryd.ntmps3
 (try simp only [List.append_eq, List.cons_append, List.nil_append])
 go_upto_region 10 with (first | ((with_reducible refine gate_dst (N := 5) rfl ?_); refine box_event (by rfl) (N := 5) (by rfl) (cs := #[.string a2_0, .int .i64 a2_1]) (t := 24) gS ?_; intro gb395 hg w18 hbox hb; have BK395 := as_ (hbox); have GW395 := gw hg bA; have GE395 := gw hg bA; replace HB := as_ (below_step bA hb); clear hb hbox hg) | ((with_reducible refine gate_callee (f := 9) rfl ?_); refine goesL_ (some 21) rfl rfl Tryd.func9 (by kernel_rfl) rfl #[.slice A0 l0.length c0] rfl aO ?_; (with_reducible refine (withylaw04_Cut.calls k _ _ l0 t396 _ ?side1 ?side2 A4.out).mono ?_); (case side1 => repeat (first | exact (Kd.C_below HR0.out HB.out) | (with_reducible refine Kd.C_alloc ?_ _) | (with_reducible refine Kd.C_drewN ?_ _) | (with_reducible refine Kd.C_drew ?_))); (case side2 => exact HC0.out); rintro e w19 ⟨v397, rfl, ho0, hb⟩; refine ⟨_, rfl, ?_⟩; have HO398 := as_ (Kd.R_lower ho0 (below_size bA)); replace BK395 := bb BK395 hb; replace HB := as_ (below_step bA hb); (try clear hb); (try clear hb2); (try clear hk); (try clear hi); (try clear ho0)) | ((with_reducible refine gate_callee (f := 9) rfl ?_); refine goesL_ (some 23) rfl rfl Tryd.func9 (by kernel_rfl) rfl #[.slice A1 l1.length c1] rfl aO ?_; (with_reducible refine (withylaw04_Cut.calls k _ _ l1 t399 _ ?side1 ?side2 A5.out).mono ?_); (case side1 => repeat (first | exact (Kd.C_below HR1.out HB.out) | (with_reducible refine Kd.C_alloc ?_ _) | (with_reducible refine Kd.C_drewN ?_ _) | (with_reducible refine Kd.C_drew ?_))); (case side2 => exact HC1.out); rintro e w20 ⟨v400, rfl, ho0, hb⟩; refine ⟨_, rfl, ?_⟩; have HO401 := as_ (Kd.R_lower (Kd.R_new' ho0 (Kd.R_lt (by (with_reducible repeat (first | apply Kd.R_alloc | apply Kd.R_drewN | apply Kd.R_drew)); exact HO398.out))) (below_size bA)); replace HO398 := as_ (Kd.R_elder' (by (with_reducible repeat (first | apply Kd.R_alloc | apply Kd.R_drewN | apply Kd.R_drew)); exact HO398.out) (Kd.R_base ho0) hb); replace BK395 := bb BK395 hb; replace HB := as_ (below_step bA hb); (try clear hb); (try clear hb2); (try clear hk); (try clear hi); (try clear ho0); obtain ⟨hcz21_0, hcz21_1⟩ := zc2 BK395; obtain ⟨hfz21_0, hfz21_1⟩ := zf2 BK395; obtain ⟨Ao22, co22, eo22⟩ := Kd.R_slice HO398.out; subst eo22) | ((with_reducible refine gate_callee (f := 10) rfl ?_); refine goesL_ (some 33) rfl rfl Tryd.func10 (by kernel_rfl) rfl #[.slice Ao22 t396.length co22] rfl aO ?_; (with_reducible refine (key_Put.calls k _ _ t396 t402 t403 _ ?side1 ?side2 A10.out).mono ?_); (case side1 => repeat (first | exact (Kd.R_reads' HO398.out).2.2 | (with_reducible refine Kd.C_alloc ?_ _) | (with_reducible refine Kd.C_drewN ?_ _) | (with_reducible refine Kd.C_drew ?_))); (case side2 => exact (Kd.R_reads' HO398.out).2.1); rintro e w23 ⟨rfl, hb⟩; refine ⟨_, rfl, ?_⟩; replace HO398 := as_ (Kd.R_below (by (with_reducible repeat (first | apply Kd.R_alloc | apply Kd.R_drewN | apply Kd.R_drew)); exact HO398.out) hb); replace HO401 := as_ (Kd.R_below (by (with_reducible repeat (first | apply Kd.R_alloc | apply Kd.R_drewN | apply Kd.R_drew)); exact HO401.out) hb); replace BK395 := bb BK395 hb; replace HB := as_ (below_step bA hb); (try clear hb); (try clear hb2); (try clear hk); (try clear hi)) | ((with_reducible refine gate_callee (f := 12) rfl ?_); refine goesL_ (some 38) rfl rfl Tryd.func12 (by kernel_rfl) rfl #[.slice Ao22 t396.length co22] rfl aO ?_; (with_reducible refine (withylaw04_Ref.calls k _ _ t396 t404 _ ?side1 ?side2 A11.out).mono ?_); (case side1 => repeat (first | exact (Kd.R_reads' HO398.out).2.2 | (with_reducible refine Kd.C_alloc ?_ _) | (with_reducible refine Kd.C_drewN ?_ _) | (with_reducible refine Kd.C_drew ?_))); (case side2 => exact (Kd.R_reads' HO398.out).2.1); rintro e w24 ⟨v405, rfl, ho0, hb⟩; refine ⟨_, rfl, ?_⟩; have HO406 := as_ (Kd.R_lower ho0 (below_size bA)); replace HO398 := as_ (Kd.R_below (by (with_reducible repeat (first | apply Kd.R_alloc | apply Kd.R_drewN | apply Kd.R_drew)); exact HO398.out) hb); replace HO401 := as_ (Kd.R_below (by (with_reducible repeat (first | apply Kd.R_alloc | apply Kd.R_drewN | apply Kd.R_drew)); exact HO401.out) hb); replace BK395 := bb BK395 hb; replace HB := as_ (below_step bA hb); (try clear hb); (try clear hb2); (try clear hk); (try clear hi); (try clear ho0); obtain ⟨Ao25, co25, eo25⟩ := Kd.R_slice HO406.out; subst eo25) | ((with_reducible refine gate_callee (f := 11) rfl ?_); refine goesL_ (some 39) rfl rfl Tryd.func11 (by kernel_rfl) rfl #[.slice Ao25 t404.length co25] rfl aO ?_; (with_reducible refine (withyref04_Put.calls k _ _ t404 t407 t408 _ ?side1 ?side2 A12.out).mono ?_); (case side1 => repeat (first | exact (Kd.R_reads' HO406.out).2.2 | (with_reducible refine Kd.C_alloc ?_ _) | (with_reducible refine Kd.C_drewN ?_ _) | (with_reducible refine Kd.C_drew ?_))); (case side2 => exact (Kd.R_reads' HO406.out).2.1); rintro e w26 ⟨rfl, hb⟩; refine ⟨_, rfl, ?_⟩; replace HO398 := as_ (Kd.R_below (by (with_reducible repeat (first | apply Kd.R_alloc | apply Kd.R_drewN | apply Kd.R_drew)); exact HO398.out) hb); replace HO401 := as_ (Kd.R_below (by (with_reducible repeat (first | apply Kd.R_alloc | apply Kd.R_drewN | apply Kd.R_drew)); exact HO401.out) hb); replace HO406 := as_ (Kd.R_below (by (with_reducible repeat (first | apply Kd.R_alloc | apply Kd.R_drewN | apply Kd.R_drew)); exact HO406.out) hb); replace BK395 := bb BK395 hb; replace HB := as_ (below_step bA hb); (try clear hb); (try clear hb2); (try clear hk); (try clear hi)) | ((with_reducible refine gate_callee (f := 13) rfl ?_); refine goesL_ (some 44) rfl rfl Tryd.func13 (by kernel_rfl) rfl #[.string js9] rfl aO ?_; (with_reducible refine (key_Get.calls k js9 t409 t410 _ A13.out).mono ?_); rintro e w27 ⟨v411, rfl, ho0, hb⟩; refine ⟨_, rfl, ?_⟩; have HO412 := as_ (Kd.R_lower (Kd.R_new' (Kd.R_new' ho0 (Kd.R_lt (by (with_reducible repeat (first | apply Kd.R_alloc | apply Kd.R_drewN | apply Kd.R_drew)); exact HO398.out))) (Kd.R_lt (by (with_reducible repeat (first | apply Kd.R_alloc | apply Kd.R_drewN | apply Kd.R_drew)); exact HO401.out))) (below_size bA)); replace HO398 := as_ (Kd.R_elder' (by (with_reducible repeat (first | apply Kd.R_alloc | apply Kd.R_drewN | apply Kd.R_drew)); exact HO398.out) (Kd.R_base ho0) hb); replace HO401 := as_ (Kd.R_elder' (by (with_reducible repeat (first | apply Kd.R_alloc | apply Kd.R_drewN | apply Kd.R_drew)); exact HO401.out) (Kd.R_base ho0) hb); replace HO406 := as_ (Kd.R_below (by (with_reducible repeat (first | apply Kd.R_alloc | apply Kd.R_drewN | apply Kd.R_drew)); exact HO406.out) hb); replace BK395 := bb BK395 hb; replace HB := as_ (below_step bA hb); (try clear hb); (try clear hb2); (try clear hk); (try clear hi); (try clear ho0)) | ((with_reducible refine gate_callee (f := 14) rfl ?_); refine goesL_ (some 49) rfl rfl Tryd.func14 (by kernel_rfl) rfl #[.string js9] rfl aO ?_; (with_reducible refine (withyref04_Get.calls k js9 t413 t414 _ A14.out).mono ?_); rintro e w28 ⟨v415, rfl, ho0, hb⟩; refine ⟨_, rfl, ?_⟩; have HO416 := as_ (Kd.R_lower (Kd.R_new' ho0 (Kd.R_lt (by (with_reducible repeat (first | apply Kd.R_alloc | apply Kd.R_drewN | apply Kd.R_drew)); exact HO406.out))) (below_size bA)); replace HO398 := as_ (Kd.R_below (by (with_reducible repeat (first | apply Kd.R_alloc | apply Kd.R_drewN | apply Kd.R_drew)); exact HO398.out) hb); replace HO401 := as_ (Kd.R_below (by (with_reducible repeat (first | apply Kd.R_alloc | apply Kd.R_drewN | apply Kd.R_drew)); exact HO401.out) hb); replace HO406 := as_ (Kd.R_elder' (by (with_reducible repeat (first | apply Kd.R_alloc | apply Kd.R_drewN | apply Kd.R_drew)); exact HO406.out) (Kd.R_base ho0) hb); replace HO412 := as_ (Kd.R_below (by (with_reducible repeat (first | apply Kd.R_alloc | apply Kd.R_drewN | apply Kd.R_drew)); exact HO412.out) hb); replace BK395 := bb BK395 hb; replace HB := as_ (below_step bA hb); (try clear hb); (try clear hb2); (try clear hk); (try clear hi); (try clear ho0); obtain ⟨hcz29_0, hcz29_1⟩ := zc2 BK395; obtain ⟨hfz29_0, hfz29_1⟩ := zf2 BK395) | ((with_reducible refine gate_callee (f := 15) rfl ?_); refine goesL_ (some 56) rfl rfl Tryd.func15 (by kernel_rfl) rfl #[.string js9, .int .i64 a2_1] rfl aO ?_; (with_reducible refine (key_Part.calls k js9 a2_1 t417 t418 _ A15.out).mono ?_); rintro e w30 ⟨rfl, hb⟩; refine ⟨_, rfl, ?_⟩; replace HO398 := as_ (Kd.R_below (by (with_reducible repeat (first | apply Kd.R_alloc | apply Kd.R_drewN | apply Kd.R_drew)); exact HO398.out) hb); replace HO401 := as_ (Kd.R_below (by (with_reducible repeat (first | apply Kd.R_alloc | apply Kd.R_drewN | apply Kd.R_drew)); exact HO401.out) hb); replace HO406 := as_ (Kd.R_below (by (with_reducible repeat (first | apply Kd.R_alloc | apply Kd.R_drewN | apply Kd.R_drew)); exact HO406.out) hb); replace HO412 := as_ (Kd.R_below (by (with_reducible repeat (first | apply Kd.R_alloc | apply Kd.R_drewN | apply Kd.R_drew)); exact HO412.out) hb); replace HO416 := as_ (Kd.R_below (by (with_reducible repeat (first | apply Kd.R_alloc | apply Kd.R_drewN | apply Kd.R_drew)); exact HO416.out) hb); replace BK395 := bb BK395 hb; replace HB := as_ (below_step bA hb); (try clear hb); (try clear hb2); (try clear hk); (try clear hi); obtain ⟨hcz31_0, hcz31_1⟩ := zc2 BK395; obtain ⟨hfz31_0, hfz31_1⟩ := zf2 BK395) | ((with_reducible refine gate_callee (f := 16) rfl ?_); refine goesL_ (some 63) rfl rfl Tryd.func16 (by kernel_rfl) rfl #[.string js9, .int .i64 a2_1] rfl aO ?_; (with_reducible refine (withyref04_Part.calls k js9 a2_1 t419 t420 _ A16.out).mono ?_); rintro e w32 ⟨rfl, hb⟩; refine ⟨_, rfl, ?_⟩; replace HO398 := as_ (Kd.R_below (by (with_reducible repeat (first | apply Kd.R_alloc | apply Kd.R_drewN | apply Kd.R_drew)); exact HO398.out) hb); replace HO401 := as_ (Kd.R_below (by (with_reducible repeat (first | apply Kd.R_alloc | apply Kd.R_drewN | apply Kd.R_drew)); exact HO401.out) hb); replace HO406 := as_ (Kd.R_below (by (with_reducible repeat (first | apply Kd.R_alloc | apply Kd.R_drewN | apply Kd.R_drew)); exact HO406.out) hb); replace HO412 := as_ (Kd.R_below (by (with_reducible repeat (first | apply Kd.R_alloc | apply Kd.R_drewN | apply Kd.R_drew)); exact HO412.out) hb); replace HO416 := as_ (Kd.R_below (by (with_reducible repeat (first | apply Kd.R_alloc | apply Kd.R_drewN | apply Kd.R_drew)); exact HO416.out) hb); replace BK395 := bb BK395 hb; replace HB := as_ (below_step bA hb); (try clear hb); (try clear hb2); (try clear hk); (try clear hi)))
 (try simp only [Act.put, List.setIfInBounds_toArray, List.set_cons_zero, List.set_cons_succ])
 go_cut [82] (fun v82 wc => ∃ (kq : Nat) (x82_16 : Bool), v82 = .bool x82_16 ∧ Aside0 (withylaw04_KeyTells.j0 kq t402 t403 t407 t408 t409 t410 t413 t414 t417 t418 t419 t420 x82_16 = some r) ∧ Aside0 (kq ≤ k) ∧ Aside0 (Kd.R k51 51 wc w.heap.size (fun _ => True) v411 t409) ∧ Aside0 (Kd.R k56 56 wc w.heap.size (fun _ => True) v415 t413) ∧ Aside0 (wc.heap[gb395]? = some (.cells #[.string a2_0, .int .i64 a2_1] 24 (0, 0))) ∧ Aside0 (Below w.heap.size w wc))
 case first =>
  have H := HC17.out
  clear HC17
  replace H := bM H
  obtain ⟨t421, A330, H⟩ := H
  replace H : (if t421 = true then ((withylaw04_right.f k t399).bind fun t422 => (if t422 = true then ((key_Compare.f k t396 t399).bind fun t423 => ((withylaw04_Ref.f k t396).bind fun t424 => ((withylaw04_Ref.f k t399).bind fun t427 => ((withyref04_Compare.f k t424 t427).bind fun t430 => (withylaw04_KeyTells.j0 k t402 t403 t407 t408 t409 t410 t413 t414 t417 t418 t419 t420 (t423 != t430)))))) else (withylaw04_KeyTells.j0 k t402 t403 t407 t408 t409 t410 t413 t414 t417 t418 t419 t420 false))) else (withylaw04_KeyTells.j0 k t402 t403 t407 t408 t409 t410 t413 t414 t417 t418 t419 t420 false)) = some r := H
  have A33 := Aside0.mk A330
  clear A330
  by_cases c34 : t421 = true
  rotate_left
  ·replace c34 := Bool.eq_false_iff.mpr c34
   subst c34
   have H1 : (withylaw04_KeyTells.j0 k t402 t403 t407 t408 t409 t410 t413 t414 t417 t418 t419 t420 false) = some r := by rw [if_neg (show ¬ (false = true) by decide)] at H; exact H
   clear H
   have H := H1
   clear H1
   have H' := Aside0.mk H
   clear H
   go_wp2_with (first | ((with_reducible refine gate_callee (f := 17) rfl ?_); refine goesL_ (some 67) rfl rfl Tryd.func17 (by kernel_rfl) rfl #[.slice Ao22 t396.length co22] rfl aO ?_; (with_reducible refine (withylaw04_right.calls k _ _ t396 false _ ?side1 ?side2 A33.out).mono ?_); (case side1 => repeat (first | exact (Kd.R_reads' HO398.out).2.2 | (with_reducible refine Kd.C_alloc ?_ _) | (with_reducible refine Kd.C_drewN ?_ _) | (with_reducible refine Kd.C_drew ?_))); (case side2 => exact (Kd.R_reads' HO398.out).2.1); rintro e w53 ⟨rfl, hb⟩; refine ⟨_, rfl, ?_⟩; replace HO398 := as_ (Kd.R_below (by (with_reducible repeat (first | apply Kd.R_alloc | apply Kd.R_drewN | apply Kd.R_drew)); exact HO398.out) hb); replace HO401 := as_ (Kd.R_below (by (with_reducible repeat (first | apply Kd.R_alloc | apply Kd.R_drewN | apply Kd.R_drew)); exact HO401.out) hb); replace HO406 := as_ (Kd.R_below (by (with_reducible repeat (first | apply Kd.R_alloc | apply Kd.R_drewN | apply Kd.R_drew)); exact HO406.out) hb); replace HO412 := as_ (Kd.R_below (by (with_reducible repeat (first | apply Kd.R_alloc | apply Kd.R_drewN | apply Kd.R_drew)); exact HO412.out) hb); replace HO416 := as_ (Kd.R_below (by (with_reducible repeat (first | apply Kd.R_alloc | apply Kd.R_drewN | apply Kd.R_drew)); exact HO416.out) hb); replace BK395 := bb BK395 hb; replace HB := as_ (below_step bA hb); (try clear hb); (try clear hb2); (try clear hk); (try clear hi)))
   go_meet
   case rel => exact ⟨_, (false), (by first | rfl | (simp; done) | (simp [*]; done)), (by first | exact H' | (rw [hji6]; exact H')), ⟨by first | omega | exact Nat.le_refl _⟩, ⟨by (with_reducible repeat (first | apply Kd.R_alloc | apply Kd.R_drewN | apply Kd.R_drew)); exact Kd.R_mono HO412.out (fun _ hk => trivial)⟩, ⟨by (with_reducible repeat (first | apply Kd.R_alloc | apply Kd.R_drewN | apply Kd.R_drew)); exact Kd.R_mono HO416.out (fun _ hk => trivial)⟩, ⟨by refine bx ?_; exact BK395.out⟩, ⟨by repeat (first | (with_reducible first | exact HB.out | apply below_alloc | apply pw_below_drewN | apply below_drew1 | refine below_set ?_ GE395.out) | exact HB.out)⟩⟩
  subst c34
  have H1 : ((withylaw04_right.f k t399).bind fun t422 => (if t422 = true then ((key_Compare.f k t396 t399).bind fun t423 => ((withylaw04_Ref.f k t396).bind fun t424 => ((withylaw04_Ref.f k t399).bind fun t427 => ((withyref04_Compare.f k t424 t427).bind fun t430 => (withylaw04_KeyTells.j0 k t402 t403 t407 t408 t409 t410 t413 t414 t417 t418 t419 t420 (t423 != t430)))))) else (withylaw04_KeyTells.j0 k t402 t403 t407 t408 t409 t410 t413 t414 t417 t418 t419 t420 false))) = some r := by rw [if_pos rfl] at H; exact H
  clear H
  have H := H1
  clear H1
  replace H := bM H
  obtain ⟨t422, A350, H⟩ := H
  replace H : (if t422 = true then ((key_Compare.f k t396 t399).bind fun t423 => ((withylaw04_Ref.f k t396).bind fun t424 => ((withylaw04_Ref.f k t399).bind fun t427 => ((withyref04_Compare.f k t424 t427).bind fun t430 => (withylaw04_KeyTells.j0 k t402 t403 t407 t408 t409 t410 t413 t414 t417 t418 t419 t420 (t423 != t430)))))) else (withylaw04_KeyTells.j0 k t402 t403 t407 t408 t409 t410 t413 t414 t417 t418 t419 t420 false)) = some r := H
  have A35 := Aside0.mk A350
  clear A350
  by_cases c36 : t422 = true
  rotate_left
  ·replace c36 := Bool.eq_false_iff.mpr c36
   subst c36
   have H1 : (withylaw04_KeyTells.j0 k t402 t403 t407 t408 t409 t410 t413 t414 t417 t418 t419 t420 false) = some r := by rw [if_neg (show ¬ (false = true) by decide)] at H; exact H
   clear H
   have H := H1
   clear H1
   have H' := Aside0.mk H
   clear H
   go_wp2_with (first | ((with_reducible refine gate_callee (f := 17) rfl ?_); refine goesL_ (some 67) rfl rfl Tryd.func17 (by kernel_rfl) rfl #[.slice Ao22 t396.length co22] rfl aO ?_; (with_reducible refine (withylaw04_right.calls k _ _ t396 true _ ?side1 ?side2 A33.out).mono ?_); (case side1 => repeat (first | exact (Kd.R_reads' HO398.out).2.2 | (with_reducible refine Kd.C_alloc ?_ _) | (with_reducible refine Kd.C_drewN ?_ _) | (with_reducible refine Kd.C_drew ?_))); (case side2 => exact (Kd.R_reads' HO398.out).2.1); rintro e w50 ⟨rfl, hb⟩; refine ⟨_, rfl, ?_⟩; replace HO398 := as_ (Kd.R_below (by (with_reducible repeat (first | apply Kd.R_alloc | apply Kd.R_drewN | apply Kd.R_drew)); exact HO398.out) hb); replace HO401 := as_ (Kd.R_below (by (with_reducible repeat (first | apply Kd.R_alloc | apply Kd.R_drewN | apply Kd.R_drew)); exact HO401.out) hb); replace HO406 := as_ (Kd.R_below (by (with_reducible repeat (first | apply Kd.R_alloc | apply Kd.R_drewN | apply Kd.R_drew)); exact HO406.out) hb); replace HO412 := as_ (Kd.R_below (by (with_reducible repeat (first | apply Kd.R_alloc | apply Kd.R_drewN | apply Kd.R_drew)); exact HO412.out) hb); replace HO416 := as_ (Kd.R_below (by (with_reducible repeat (first | apply Kd.R_alloc | apply Kd.R_drewN | apply Kd.R_drew)); exact HO416.out) hb); replace BK395 := bb BK395 hb; replace HB := as_ (below_step bA hb); (try clear hb); (try clear hb2); (try clear hk); (try clear hi); obtain ⟨Ao51, co51, eo51⟩ := Kd.R_slice HO401.out; subst eo51) | (go_at_call 17; (with_reducible refine (withylaw04_right.calls k _ _ t399 false _ ?side1 ?side2 A35.out).mono ?_); (case side1 => repeat (first | exact (Kd.R_reads' HO401.out).2.2 | (with_reducible refine Kd.C_alloc ?_ _) | (with_reducible refine Kd.C_drewN ?_ _) | (with_reducible refine Kd.C_drew ?_))); (case side2 => exact (Kd.R_reads' HO401.out).2.1); rintro e w52 ⟨rfl, hb⟩; replace HO398 := as_ (Kd.R_below (by (with_reducible repeat (first | apply Kd.R_alloc | apply Kd.R_drewN | apply Kd.R_drew)); exact HO398.out) hb); replace HO401 := as_ (Kd.R_below (by (with_reducible repeat (first | apply Kd.R_alloc | apply Kd.R_drewN | apply Kd.R_drew)); exact HO401.out) hb); replace HO406 := as_ (Kd.R_below (by (with_reducible repeat (first | apply Kd.R_alloc | apply Kd.R_drewN | apply Kd.R_drew)); exact HO406.out) hb); replace HO412 := as_ (Kd.R_below (by (with_reducible repeat (first | apply Kd.R_alloc | apply Kd.R_drewN | apply Kd.R_drew)); exact HO412.out) hb); replace HO416 := as_ (Kd.R_below (by (with_reducible repeat (first | apply Kd.R_alloc | apply Kd.R_drewN | apply Kd.R_drew)); exact HO416.out) hb); replace BK395 := bb BK395 hb; replace HB := as_ (below_step bA hb); (try clear hb); (try clear hb2); (try clear hk); (try clear hi)))
   go_meet
   case rel => exact ⟨_, (false), (by first | rfl | (simp; done) | (simp [*]; done)), (by first | exact H' | (rw [hji6]; exact H')), ⟨by first | omega | exact Nat.le_refl _⟩, ⟨by (with_reducible repeat (first | apply Kd.R_alloc | apply Kd.R_drewN | apply Kd.R_drew)); exact Kd.R_mono HO412.out (fun _ hk => trivial)⟩, ⟨by (with_reducible repeat (first | apply Kd.R_alloc | apply Kd.R_drewN | apply Kd.R_drew)); exact Kd.R_mono HO416.out (fun _ hk => trivial)⟩, ⟨by refine bx ?_; exact BK395.out⟩, ⟨by repeat (first | (with_reducible first | exact HB.out | apply below_alloc | apply pw_below_drewN | apply below_drew1 | refine below_set ?_ GE395.out) | exact HB.out)⟩⟩
  subst c36
  have H1 : ((key_Compare.f k t396 t399).bind fun t423 => ((withylaw04_Ref.f k t396).bind fun t424 => ((withylaw04_Ref.f k t399).bind fun t427 => ((withyref04_Compare.f k t424 t427).bind fun t430 => (withylaw04_KeyTells.j0 k t402 t403 t407 t408 t409 t410 t413 t414 t417 t418 t419 t420 (t423 != t430)))))) = some r := by rw [if_pos rfl] at H; exact H
  clear H
  have H := H1
  clear H1
  replace H := bM H
  obtain ⟨t423, A370, H⟩ := H
  replace H : ((withylaw04_Ref.f k t396).bind fun t424 => ((withylaw04_Ref.f k t399).bind fun t427 => ((withyref04_Compare.f k t424 t427).bind fun t430 => (withylaw04_KeyTells.j0 k t402 t403 t407 t408 t409 t410 t413 t414 t417 t418 t419 t420 (t423 != t430))))) = some r := H
  have A37 := Aside0.mk A370
  clear A370
  replace H := bM H
  obtain ⟨t424, A380, H⟩ := H
  replace H : ((withylaw04_Ref.f k t399).bind fun t427 => ((withyref04_Compare.f k t424 t427).bind fun t430 => (withylaw04_KeyTells.j0 k t402 t403 t407 t408 t409 t410 t413 t414 t417 t418 t419 t420 (t423 != t430)))) = some r := H
  have A38 := Aside0.mk A380
  clear A380
  replace H := bM H
  obtain ⟨t427, A390, H⟩ := H
  replace H : ((withyref04_Compare.f k t424 t427).bind fun t430 => (withylaw04_KeyTells.j0 k t402 t403 t407 t408 t409 t410 t413 t414 t417 t418 t419 t420 (t423 != t430))) = some r := H
  have A39 := Aside0.mk A390
  clear A390
  replace H := bM H
  obtain ⟨t430, A400, H⟩ := H
  replace H : (withylaw04_KeyTells.j0 k t402 t403 t407 t408 t409 t410 t413 t414 t417 t418 t419 t420 (t423 != t430)) = some r := H
  have A40 := Aside0.mk A400
  clear A400
  have H' := Aside0.mk H
  clear H
  go_wp2_with (first | ((with_reducible refine gate_callee (f := 17) rfl ?_); refine goesL_ (some 67) rfl rfl Tryd.func17 (by kernel_rfl) rfl #[.slice Ao22 t396.length co22] rfl aO ?_; (with_reducible refine (withylaw04_right.calls k _ _ t396 true _ ?side1 ?side2 A33.out).mono ?_); (case side1 => repeat (first | exact (Kd.R_reads' HO398.out).2.2 | (with_reducible refine Kd.C_alloc ?_ _) | (with_reducible refine Kd.C_drewN ?_ _) | (with_reducible refine Kd.C_drew ?_))); (case side2 => exact (Kd.R_reads' HO398.out).2.1); rintro e w41 ⟨rfl, hb⟩; refine ⟨_, rfl, ?_⟩; replace HO398 := as_ (Kd.R_below (by (with_reducible repeat (first | apply Kd.R_alloc | apply Kd.R_drewN | apply Kd.R_drew)); exact HO398.out) hb); replace HO401 := as_ (Kd.R_below (by (with_reducible repeat (first | apply Kd.R_alloc | apply Kd.R_drewN | apply Kd.R_drew)); exact HO401.out) hb); replace HO406 := as_ (Kd.R_below (by (with_reducible repeat (first | apply Kd.R_alloc | apply Kd.R_drewN | apply Kd.R_drew)); exact HO406.out) hb); replace HO412 := as_ (Kd.R_below (by (with_reducible repeat (first | apply Kd.R_alloc | apply Kd.R_drewN | apply Kd.R_drew)); exact HO412.out) hb); replace HO416 := as_ (Kd.R_below (by (with_reducible repeat (first | apply Kd.R_alloc | apply Kd.R_drewN | apply Kd.R_drew)); exact HO416.out) hb); replace BK395 := bb BK395 hb; replace HB := as_ (below_step bA hb); (try clear hb); (try clear hb2); (try clear hk); (try clear hi); obtain ⟨Ao42, co42, eo42⟩ := Kd.R_slice HO401.out; subst eo42) | (go_at_call 17; (with_reducible refine (withylaw04_right.calls k _ _ t399 true _ ?side1 ?side2 A35.out).mono ?_); (case side1 => repeat (first | exact (Kd.R_reads' HO401.out).2.2 | (with_reducible refine Kd.C_alloc ?_ _) | (with_reducible refine Kd.C_drewN ?_ _) | (with_reducible refine Kd.C_drew ?_))); (case side2 => exact (Kd.R_reads' HO401.out).2.1); rintro e w43 ⟨rfl, hb⟩; replace HO398 := as_ (Kd.R_below (by (with_reducible repeat (first | apply Kd.R_alloc | apply Kd.R_drewN | apply Kd.R_drew)); exact HO398.out) hb); replace HO401 := as_ (Kd.R_below (by (with_reducible repeat (first | apply Kd.R_alloc | apply Kd.R_drewN | apply Kd.R_drew)); exact HO401.out) hb); replace HO406 := as_ (Kd.R_below (by (with_reducible repeat (first | apply Kd.R_alloc | apply Kd.R_drewN | apply Kd.R_drew)); exact HO406.out) hb); replace HO412 := as_ (Kd.R_below (by (with_reducible repeat (first | apply Kd.R_alloc | apply Kd.R_drewN | apply Kd.R_drew)); exact HO412.out) hb); replace HO416 := as_ (Kd.R_below (by (with_reducible repeat (first | apply Kd.R_alloc | apply Kd.R_drewN | apply Kd.R_drew)); exact HO416.out) hb); replace BK395 := bb BK395 hb; replace HB := as_ (below_step bA hb); (try clear hb); (try clear hb2); (try clear hk); (try clear hi)) | (go_at_call 18; (with_reducible refine (key_Compare.calls k _ _ t396 _ _ t399 t423 _ ?side1 ?side2 ?side3 ?side4 A37.out).mono ?_); (case side1 => repeat (first | exact (Kd.R_reads' HO398.out).2.2 | (with_reducible refine Kd.C_alloc ?_ _) | (with_reducible refine Kd.C_drewN ?_ _) | (with_reducible refine Kd.C_drew ?_))); (case side2 => exact (Kd.R_reads' HO398.out).2.1); (case side3 => repeat (first | exact (Kd.R_reads' HO401.out).2.2 | (with_reducible refine Kd.C_alloc ?_ _) | (with_reducible refine Kd.C_drewN ?_ _) | (with_reducible refine Kd.C_drew ?_))); (case side4 => exact (Kd.R_reads' HO401.out).2.1); rintro e w44 ⟨rfl, hb⟩; replace HO398 := as_ (Kd.R_below (by (with_reducible repeat (first | apply Kd.R_alloc | apply Kd.R_drewN | apply Kd.R_drew)); exact HO398.out) hb); replace HO401 := as_ (Kd.R_below (by (with_reducible repeat (first | apply Kd.R_alloc | apply Kd.R_drewN | apply Kd.R_drew)); exact HO401.out) hb); replace HO406 := as_ (Kd.R_below (by (with_reducible repeat (first | apply Kd.R_alloc | apply Kd.R_drewN | apply Kd.R_drew)); exact HO406.out) hb); replace HO412 := as_ (Kd.R_below (by (with_reducible repeat (first | apply Kd.R_alloc | apply Kd.R_drewN | apply Kd.R_drew)); exact HO412.out) hb); replace HO416 := as_ (Kd.R_below (by (with_reducible repeat (first | apply Kd.R_alloc | apply Kd.R_drewN | apply Kd.R_drew)); exact HO416.out) hb); replace BK395 := bb BK395 hb; replace HB := as_ (below_step bA hb); (try clear hb); (try clear hb2); (try clear hk); (try clear hi)) | (go_at_call 12; (with_reducible refine (withylaw04_Ref.calls k _ _ t396 t424 _ ?side1 ?side2 A38.out).mono ?_); (case side1 => repeat (first | exact (Kd.R_reads' HO398.out).2.2 | (with_reducible refine Kd.C_alloc ?_ _) | (with_reducible refine Kd.C_drewN ?_ _) | (with_reducible refine Kd.C_drew ?_))); (case side2 => exact (Kd.R_reads' HO398.out).2.1); rintro e w45 ⟨v425, rfl, ho0, hb⟩; clear A38; have HO426 := as_ (Kd.R_lower (Kd.R_new' (Kd.R_new' ho0 (Kd.R_lt (by (with_reducible repeat (first | apply Kd.R_alloc | apply Kd.R_drewN | apply Kd.R_drew)); exact HO406.out))) (Kd.R_lt (by (with_reducible repeat (first | apply Kd.R_alloc | apply Kd.R_drewN | apply Kd.R_drew)); exact HO416.out))) (below_size bA)); replace HO398 := as_ (Kd.R_below (by (with_reducible repeat (first | apply Kd.R_alloc | apply Kd.R_drewN | apply Kd.R_drew)); exact HO398.out) hb); replace HO401 := as_ (Kd.R_below (by (with_reducible repeat (first | apply Kd.R_alloc | apply Kd.R_drewN | apply Kd.R_drew)); exact HO401.out) hb); replace HO406 := as_ (Kd.R_elder' (by (with_reducible repeat (first | apply Kd.R_alloc | apply Kd.R_drewN | apply Kd.R_drew)); exact HO406.out) (Kd.R_base ho0) hb); replace HO412 := as_ (Kd.R_below (by (with_reducible repeat (first | apply Kd.R_alloc | apply Kd.R_drewN | apply Kd.R_drew)); exact HO412.out) hb); replace HO416 := as_ (Kd.R_elder' (by (with_reducible repeat (first | apply Kd.R_alloc | apply Kd.R_drewN | apply Kd.R_drew)); exact HO416.out) (Kd.R_base ho0) hb); replace BK395 := bb BK395 hb; replace HB := as_ (below_step bA hb); (try clear hb); (try clear hb2); (try clear hk); (try clear hi); (try clear ho0)) | (go_at_call 12; (with_reducible refine (withylaw04_Ref.calls k _ _ t399 t427 _ ?side1 ?side2 A39.out).mono ?_); (case side1 => repeat (first | exact (Kd.R_reads' HO401.out).2.2 | (with_reducible refine Kd.C_alloc ?_ _) | (with_reducible refine Kd.C_drewN ?_ _) | (with_reducible refine Kd.C_drew ?_))); (case side2 => exact (Kd.R_reads' HO401.out).2.1); rintro e w46 ⟨v428, rfl, ho0, hb⟩; clear A39; have HO429 := as_ (Kd.R_lower (Kd.R_new' (Kd.R_new' (Kd.R_new' ho0 (Kd.R_lt (by (with_reducible repeat (first | apply Kd.R_alloc | apply Kd.R_drewN | apply Kd.R_drew)); exact HO406.out))) (Kd.R_lt (by (with_reducible repeat (first | apply Kd.R_alloc | apply Kd.R_drewN | apply Kd.R_drew)); exact HO416.out))) (Kd.R_lt (by (with_reducible repeat (first | apply Kd.R_alloc | apply Kd.R_drewN | apply Kd.R_drew)); exact HO426.out))) (below_size bA)); replace HO398 := as_ (Kd.R_below (by (with_reducible repeat (first | apply Kd.R_alloc | apply Kd.R_drewN | apply Kd.R_drew)); exact HO398.out) hb); replace HO401 := as_ (Kd.R_below (by (with_reducible repeat (first | apply Kd.R_alloc | apply Kd.R_drewN | apply Kd.R_drew)); exact HO401.out) hb); replace HO406 := as_ (Kd.R_elder' (by (with_reducible repeat (first | apply Kd.R_alloc | apply Kd.R_drewN | apply Kd.R_drew)); exact HO406.out) (Kd.R_base ho0) hb); replace HO412 := as_ (Kd.R_below (by (with_reducible repeat (first | apply Kd.R_alloc | apply Kd.R_drewN | apply Kd.R_drew)); exact HO412.out) hb); replace HO416 := as_ (Kd.R_elder' (by (with_reducible repeat (first | apply Kd.R_alloc | apply Kd.R_drewN | apply Kd.R_drew)); exact HO416.out) (Kd.R_base ho0) hb); replace HO426 := as_ (Kd.R_elder' (by (with_reducible repeat (first | apply Kd.R_alloc | apply Kd.R_drewN | apply Kd.R_drew)); exact HO426.out) (Kd.R_base ho0) hb); replace BK395 := bb BK395 hb; replace HB := as_ (below_step bA hb); (try clear hb); (try clear hb2); (try clear hk); (try clear hi); (try clear ho0); obtain ⟨Ao47, co47, eo47⟩ := Kd.R_slice HO426.out; subst eo47; obtain ⟨Ao48, co48, eo48⟩ := Kd.R_slice HO429.out; subst eo48) | (go_at_call 19; (with_reducible refine (withyref04_Compare.calls k _ _ t424 _ _ t427 t430 _ ?side1 ?side2 ?side3 ?side4 A40.out).mono ?_); (case side1 => repeat (first | exact (Kd.R_reads' HO426.out).2.2 | (with_reducible refine Kd.C_alloc ?_ _) | (with_reducible refine Kd.C_drewN ?_ _) | (with_reducible refine Kd.C_drew ?_))); (case side2 => exact (Kd.R_reads' HO426.out).2.1); (case side3 => repeat (first | exact (Kd.R_reads' HO429.out).2.2 | (with_reducible refine Kd.C_alloc ?_ _) | (with_reducible refine Kd.C_drewN ?_ _) | (with_reducible refine Kd.C_drew ?_))); (case side4 => exact (Kd.R_reads' HO429.out).2.1); rintro e w49 ⟨rfl, hb⟩; replace HO398 := as_ (Kd.R_below (by (with_reducible repeat (first | apply Kd.R_alloc | apply Kd.R_drewN | apply Kd.R_drew)); exact HO398.out) hb); replace HO401 := as_ (Kd.R_below (by (with_reducible repeat (first | apply Kd.R_alloc | apply Kd.R_drewN | apply Kd.R_drew)); exact HO401.out) hb); replace HO406 := as_ (Kd.R_below (by (with_reducible repeat (first | apply Kd.R_alloc | apply Kd.R_drewN | apply Kd.R_drew)); exact HO406.out) hb); replace HO412 := as_ (Kd.R_below (by (with_reducible repeat (first | apply Kd.R_alloc | apply Kd.R_drewN | apply Kd.R_drew)); exact HO412.out) hb); replace HO416 := as_ (Kd.R_below (by (with_reducible repeat (first | apply Kd.R_alloc | apply Kd.R_drewN | apply Kd.R_drew)); exact HO416.out) hb); replace HO426 := as_ (Kd.R_below (by (with_reducible repeat (first | apply Kd.R_alloc | apply Kd.R_drewN | apply Kd.R_drew)); exact HO426.out) hb); replace HO429 := as_ (Kd.R_below (by (with_reducible repeat (first | apply Kd.R_alloc | apply Kd.R_drewN | apply Kd.R_drew)); exact HO429.out) hb); replace BK395 := bb BK395 hb; replace HB := as_ (below_step bA hb); (try clear hb); (try clear hb2); (try clear hk); (try clear hi)))
  go_meet
  case rel => exact ⟨_, ((t423 != t430)), (by first | rfl | (simp; done) | (simp [*]; done)), (by first | exact H' | (rw [hji6]; exact H')), ⟨by first | omega | exact Nat.le_refl _⟩, ⟨by (with_reducible repeat (first | apply Kd.R_alloc | apply Kd.R_drewN | apply Kd.R_drew)); exact Kd.R_mono HO412.out (fun _ hk => trivial)⟩, ⟨by (with_reducible repeat (first | apply Kd.R_alloc | apply Kd.R_drewN | apply Kd.R_drew)); exact Kd.R_mono HO416.out (fun _ hk => trivial)⟩, ⟨by refine bx ?_; exact BK395.out⟩, ⟨by repeat (first | (with_reducible first | exact HB.out | apply below_alloc | apply pw_below_drewN | apply below_drew1 | refine below_set ?_ GE395.out) | exact HB.out)⟩⟩
 case rest =>
  clear HC17
  try clear c1
  try clear p2
  try clear c3
  try clear c7
  try clear c7b0
  try clear c7b1
  try clear c8
  try clear c8b0
  try clear c8b1
  try clear c9
  try clear c10
  try clear c11
  try clear c12
  try clear c13
  try clear c14
  try clear c15
  try clear c16
  try clear c17
  try clear c34
  try clear c36
  try clear hcz21_0
  try clear hcz21_1
  try clear hcz29_0
  try clear hcz29_1
  try clear hcz31_0
  try clear hcz31_1
  try clear hfz21_0
  try clear hfz21_1
  try clear hfz29_0
  try clear hfz29_1
  try clear hfz31_0
  try clear hfz31_1
  obtain ⟨kq, x82_16, rfl, HA, HJ16, HO_12, HO_14, BK395, HB⟩ := hcut
  cases kq with
  | zero => exact absurd HA.out (by simp [withylaw04_KeyTells.j0])
  | succ kj16 =>
   have H := HA.out
   clear HA
   simp only [withylaw04_KeyTells.j0] at H
   by_cases c54 : x82_16 = true
   ·subst c54
    have H1 : (none) = some r := by rw [if_pos rfl] at H; exact H
    clear H
    have H := H1
    clear H1
    exact absurd H (by simp)
   replace c54 := Bool.eq_false_iff.mpr c54
   subst c54
   have H1 : (if t402.toList = t407.toList then (if t403 = t408 then ((withylaw04_Ref.f kj16 t409).bind fun t431 => ((withyref04_Same.f kj16 t431 t413).bind fun t434 => (if t434 = true then (if t410 = t414 then (if t417.toList = t419.toList then (if t418 = t420 then ((withylaw04_fixed.f kj16).bind fun t435 => (some t435)) else (none)) else (none)) else (none)) else (none)))) else (none)) else (none)) = some r := by rw [if_neg (show ¬ (false = true) by decide)] at H; exact H
   clear H
   have H := H1
   clear H1
   by_cases c55 : t402.toList = t407.toList
   rotate_left
   ·rw [if_neg c55] at H
    exact absurd H (by simp)
   rw [if_pos c55] at H
   have c55b0 : (t402.toList == t407.toList) = true := beq_iff_eq.mpr c55
   have c55b1 : (t402.toList != t407.toList) = false := bne_eq_false_iff_eq.mpr c55
   clear c55
   by_cases c56 : t403 = t408
   rotate_left
   ·rw [if_neg c56] at H
    exact absurd H (by simp)
   rw [if_pos c56] at H
   have c56b0 : (t403 == t408) = true := beq_iff_eq.mpr c56
   have c56b1 : (t403 != t408) = false := bne_eq_false_iff_eq.mpr c56
   clear c56
   replace H := bM H
   obtain ⟨t431, A570, H⟩ := H
   replace H : ((withyref04_Same.f kj16 t431 t413).bind fun t434 => (if t434 = true then (if t410 = t414 then (if t417.toList = t419.toList then (if t418 = t420 then ((withylaw04_fixed.f kj16).bind fun t435 => (some t435)) else (none)) else (none)) else (none)) else (none))) = some r := H
   have A57 := Aside0.mk A570
   clear A570
   replace H := bM H
   obtain ⟨t434, A580, H⟩ := H
   replace H : (if t434 = true then (if t410 = t414 then (if t417.toList = t419.toList then (if t418 = t420 then ((withylaw04_fixed.f kj16).bind fun t435 => (some t435)) else (none)) else (none)) else (none)) else (none)) = some r := H
   have A58 := Aside0.mk A580
   clear A580
   by_cases c59 : t434 = true
   rotate_left
   ·replace c59 := Bool.eq_false_iff.mpr c59
    subst c59
    have H1 : (none) = some r := by rw [if_neg (show ¬ (false = true) by decide)] at H; exact H
    clear H
    have H := H1
    clear H1
    exact absurd H (by simp)
   subst c59
   have H1 : (if t410 = t414 then (if t417.toList = t419.toList then (if t418 = t420 then ((withylaw04_fixed.f kj16).bind fun t435 => (some t435)) else (none)) else (none)) else (none)) = some r := by rw [if_pos rfl] at H; exact H
   clear H
   have H := H1
   clear H1
   by_cases c60 : t410 = t414
   rotate_left
   ·rw [if_neg c60] at H
    exact absurd H (by simp)
   rw [if_pos c60] at H
   have c60b0 : (t410 == t414) = true := beq_iff_eq.mpr c60
   have c60b1 : (t410 != t414) = false := bne_eq_false_iff_eq.mpr c60
   clear c60
   by_cases c61 : t417.toList = t419.toList
   rotate_left
   ·rw [if_neg c61] at H
    exact absurd H (by simp)
   rw [if_pos c61] at H
   have c61b0 : (t417.toList == t419.toList) = true := beq_iff_eq.mpr c61
   have c61b1 : (t417.toList != t419.toList) = false := bne_eq_false_iff_eq.mpr c61
   clear c61
   by_cases c62 : t418 = t420
   rotate_left
   ·rw [if_neg c62] at H
    exact absurd H (by simp)
   rw [if_pos c62] at H
   have c62b0 : (t418 == t420) = true := beq_iff_eq.mpr c62
   have c62b1 : (t418 != t420) = false := bne_eq_false_iff_eq.mpr c62
   clear c62
   replace H := bM H
   obtain ⟨t435, A630, H⟩ := H
   replace H : (some t435) = some r := H
   have A63 := Aside0.mk A630
   clear A630
   obtain rfl := Option.some.inj H
   obtain ⟨Ao64, co64, eo64⟩ := Kd.R_slice HO_12.out
   subst eo64
   go_wp2_with (first | (go_at_call 12; (with_reducible refine (withylaw04_Ref.calls kj16 _ _ t409 t431 _ ?side1 ?side2 A57.out).mono ?_); (case side1 => repeat (first | exact (Kd.R_reads' HO_12.out).2.2 | (with_reducible refine Kd.C_alloc ?_ _) | (with_reducible refine Kd.C_drewN ?_ _) | (with_reducible refine Kd.C_drew ?_))); (case side2 => exact (Kd.R_reads' HO_12.out).2.1); rintro e w65 ⟨v432, rfl, ho0, hb⟩; have HO433 := as_ (Kd.R_lower (Kd.R_new' ho0 (Kd.R_lt (by (with_reducible repeat (first | apply Kd.R_alloc | apply Kd.R_drewN | apply Kd.R_drew)); exact HO_14.out))) (below_size bA)); replace HO_12 := as_ (Kd.R_below (by (with_reducible repeat (first | apply Kd.R_alloc | apply Kd.R_drewN | apply Kd.R_drew)); exact HO_12.out) hb); replace HO_14 := as_ (Kd.R_elder' (by (with_reducible repeat (first | apply Kd.R_alloc | apply Kd.R_drewN | apply Kd.R_drew)); exact HO_14.out) (Kd.R_base ho0) hb); replace BK395 := bb BK395 hb; replace HB := as_ (below_step bA hb); (try clear hb); (try clear hb2); (try clear hk); (try clear hi); (try clear ho0); obtain ⟨Ao66, co66, eo66⟩ := Kd.R_slice HO433.out; subst eo66; obtain ⟨Ao67, co67, eo67⟩ := Kd.R_slice HO_14.out; subst eo67) | (go_at_call 20; (with_reducible refine (withyref04_Same.calls kj16 _ _ t431 _ _ t413 true _ ?side1 ?side2 ?side3 ?side4 A58.out).mono ?_); (case side1 => repeat (first | exact (Kd.R_reads' HO433.out).2.2 | (with_reducible refine Kd.C_alloc ?_ _) | (with_reducible refine Kd.C_drewN ?_ _) | (with_reducible refine Kd.C_drew ?_))); (case side2 => exact (Kd.R_reads' HO433.out).2.1); (case side3 => repeat (first | exact (Kd.R_reads' HO_14.out).2.2 | (with_reducible refine Kd.C_alloc ?_ _) | (with_reducible refine Kd.C_drewN ?_ _) | (with_reducible refine Kd.C_drew ?_))); (case side4 => exact (Kd.R_reads' HO_14.out).2.1); rintro e w' ⟨rfl, ⟨nd, rfl⟩⟩) | (go_at_call 21; (with_reducible refine (withylaw04_fixed.calls kj16  t435 _ A63.out).mono ?_); rintro e w68 ⟨rfl, hb⟩; replace HO_12 := as_ (Kd.R_below (by (with_reducible repeat (first | apply Kd.R_alloc | apply Kd.R_drewN | apply Kd.R_drew)); exact HO_12.out) hb); replace HO_14 := as_ (Kd.R_below (by (with_reducible repeat (first | apply Kd.R_alloc | apply Kd.R_drewN | apply Kd.R_drew)); exact HO_14.out) hb); replace HO433 := as_ (Kd.R_below (by (with_reducible repeat (first | apply Kd.R_alloc | apply Kd.R_drewN | apply Kd.R_drew)); exact HO433.out) hb); replace BK395 := bb BK395 hb; replace HB := as_ (below_step bA hb); (try clear hb); (try clear hb2); (try clear hk); (try clear hi)))
   go_ret
   exact ⟨by first | rfl | (simp [errW_none, errW_some] <;> rfl) | (simp only [← hji6, ← hjs9]; first | rfl | (simp [errW_none, errW_some] <;> rfl)) | (simp [*, errW_none, errW_some] <;> rfl), by repeat (first | (with_reducible first | exact HB.out | apply below_alloc | apply pw_below_drewN | apply below_drew1 | refine below_set ?_ GE395.out) | exact HB.out)⟩
end Go.Proofs.YthaicofleloplaaDoor.P
