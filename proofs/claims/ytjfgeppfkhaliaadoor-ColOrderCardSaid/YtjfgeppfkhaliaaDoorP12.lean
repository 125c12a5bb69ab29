/- What is proved here: for functions of the Go text, a Lean function each, and that the call comes to just what it answers. Conditions: as each contract names them. Written by wip/tools/myprint.py, a driver of the print of the kit. -/
import Derived.Test.YtjfgeppfkhaliaaDoorP0
import Derived.Test.YtjfgeppfkhaliaaDoorP1
import Derived.Test.YtjfgeppfkhaliaaDoorP4
import Derived.Test.YtjfgeppfkhaliaaDoorP5
import Derived.Test.YtjfgeppfkhaliaaDoorP8
import Derived.Test.YtjfgeppfkhaliaaDoorP11
import Derived.Test.YtjfgeppfkhaliaaDoorWAbbr
namespace Go.Proofs.YtjfgeppfkhaliaaDoor.P
open Go.RowKit Go.Proofs.YtjfgeppfkhaliaaDoorW.PrintWords Go.Proofs.YtjfgeppfkhaliaaDoorW.PrintLast Go.Proofs.YtjfgeppfkhaliaaDoorW.PrintMore Go.Proofs.YtjfgeppfkhaliaaDoorW.Abbr
-- PACKED
attribute [local go_sem] max2_int min2_int max_two min_two max_three min_three max_four min_four Go.Proofs.YtjfgeppfkhaliaaDoorLaws.str_leq Go.Proofs.YtjfgeppfkhaliaaDoorLaws.str_gtr Go.Proofs.YtjfgeppfkhaliaaDoorLaws.str_geq Go.Proofs.YtjfgeppfkhaliaaDoorLaws.max2_str Go.Proofs.YtjfgeppfkhaliaaDoorLaws.min2_str   -- for this text's walks alone
set_option linter.unusedVariables false
set_option linter.unusedSimpArgs false

attribute [local go_sem high] eqA24
/-! ### withylaw03_fixed: function 19 -/
def withylaw03_fixed.f (k : Nat)  : Option (Bool) := (col_Put.f k 2 (-1) 0 (⟨#[]⟩ : ByteArray)).bind fun bt244 => ((col_Put.f k 4 0 0 (⟨#[0, 97]⟩ : ByteArray)).bind fun bt246 => ((col_Put.f k 0 0 0 (⟨#[]⟩ : ByteArray)).bind fun bt248 => ((col_Put.f k 1 0 1 (⟨#[]⟩ : ByteArray)).bind fun bt250 => ((col_Put.f k 1 0 2 (⟨#[]⟩ : ByteArray)).bind fun bt252 => ((col_Get.f k (⟨#[122, 80, 0, 255, 97, 0, 1, 121]⟩ : ByteArray) 1).bind fun bt254 => ((col_Get.f k (⟨#[80, 97]⟩ : ByteArray) 0).bind fun bt261 => ((col_Get.f k (⟨#[80, 0, 2]⟩ : ByteArray) 0).bind fun bt268 => ((col_Get.f k (⟨#[17]⟩ : ByteArray) 0).bind fun bt275 => ((col_Get.f k (⟨#[64, 241, 0]⟩ : ByteArray) 0).bind fun bt282 => ((col_Get.f k (⟨#[97]⟩ : ByteArray) 2).bind fun bt289 => (if bt244.1.toList = ([48, 127, 255, 255, 255, 255, 255, 255, 255] : List UInt8) then (if bt244.2 = 0 then (if bt246.1.toList = ([80, 0, 255, 97, 0, 1] : List UInt8) then (if bt246.2 = 0 then (if bt248.1.toList = ([16] : List UInt8) then (if bt248.2 = 0 then (if bt250.1.toList = ([33] : List UInt8) then (if bt250.2 = 0 then (if bt252.2 = 3 then (if (bt254.1 == 4 && (bt254.2.1 == 0 && (bt254.2.2.1 == 0 && (bt254.2.2.2.1.toList == ([0, 97] : List UInt8))))) = true then (if bt254.2.2.2.2.1 = 7 then (if bt254.2.2.2.2.2 = 0 then (if bt261.2.2.2.2.2 = 7 then (if bt268.2.2.2.2.2 = 3 then (if bt275.2.2.2.2.2 = 3 then (if bt282.2.2.2.2.2 = 3 then (if bt289.2.2.2.2.2 = 4 then ((col_Compare.f k 2 (-1) 0 (⟨#[]⟩ : ByteArray) 2 0 0 (⟨#[]⟩ : ByteArray)).bind fun t296 => (if t296 = (-1) then ((col_Compare.f k 4 0 0 (⟨#[]⟩ : ByteArray) 3 0 9 (⟨#[]⟩ : ByteArray)).bind fun t297 => (if t297 = 1 then ((col_Right.f k 3 0 9 (⟨#[]⟩ : ByteArray)).bind fun t298 => (if t298 = true then ((col_Right.f k 3 9 0 (⟨#[]⟩ : ByteArray)).bind fun t299 => (if t299 = true then (none) else (some true))) else (none))) else (none))) else (none))) else (none)) else (none)) else (none)) else (none)) else (none)) else (none)) else (none)) else (none)) else (none)) else (none)) else (none)) else (none)) else (none)) else (none)) else (none)) else (none)) else (none))))))))))))
theorem withylaw03_fixed.mono : ∀ k, LeO (withylaw03_fixed.f k ) (withylaw03_fixed.f (k + 1) ) := by
 intro  k
 unfold withylaw03_fixed.f
 repeat' first
   | (with_reducible exact col_Compare.mono _ _ _ _ _ _ _ _ _)
   | (with_reducible exact col_Get.mono _ _ _)
   | (with_reducible exact col_Put.mono _ _ _ _ _)
   | (with_reducible exact col_Right.mono _ _ _ _ _)
   | (with_reducible exact LeO.refl _)
   | (with_reducible exact LeO.none _)
   | (with_reducible refine LeO.ite ?_ ?_)
   | (with_reducible refine LeO.bind ?_ (fun _ => ?_))
   | exact col_Compare.mono _ _ _ _ _ _ _ _ _
   | exact col_Get.mono _ _ _
   | exact col_Put.mono _ _ _ _ _
   | exact col_Right.mono _ _ _ _ _
   | exact LeO.none _
   | refine LeO.ite ?_ ?_
   | refine LeO.bind ?_ (fun _ => ?_)
set_option maxHeartbeats 8000000 in
set_option maxRecDepth 100000 in
theorem withylaw03_fixed.calls (k : Nat)  (r : Bool) (w : World) (h : withylaw03_fixed.f k  = some r) :
  Calls Tryd.prog 19 #[] w fun e w' => e = .returned (.bool r) ∧ Below w.heap.size w w' := by
 have hu24 := Tryd.underlying24
 have HB := as_ (Below.refl w.heap.size w)
 have H : ((col_Put.f k 2 (-1) 0 (⟨#[]⟩ : ByteArray)).bind fun bt244 => ((col_Put.f k 4 0 0 (⟨#[0, 97]⟩ : ByteArray)).bind fun bt246 => ((col_Put.f k 0 0 0 (⟨#[]⟩ : ByteArray)).bind fun bt248 => ((col_Put.f k 1 0 1 (⟨#[]⟩ : ByteArray)).bind fun bt250 => ((col_Put.f k 1 0 2 (⟨#[]⟩ : ByteArray)).bind fun bt252 => ((col_Get.f k (⟨#[122, 80, 0, 255, 97, 0, 1, 121]⟩ : ByteArray) 1).bind fun bt254 => ((col_Get.f k (⟨#[80, 97]⟩ : ByteArray) 0).bind fun bt261 => ((col_Get.f k (⟨#[80, 0, 2]⟩ : ByteArray) 0).bind fun bt268 => ((col_Get.f k (⟨#[17]⟩ : ByteArray) 0).bind fun bt275 => ((col_Get.f k (⟨#[64, 241, 0]⟩ : ByteArray) 0).bind fun bt282 => ((col_Get.f k (⟨#[97]⟩ : ByteArray) 2).bind fun bt289 => (if bt244.1.toList = ([48, 127, 255, 255, 255, 255, 255, 255, 255] : List UInt8) then (if bt244.2 = 0 then (if bt246.1.toList = ([80, 0, 255, 97, 0, 1] : List UInt8) then (if bt246.2 = 0 then (if bt248.1.toList = ([16] : List UInt8) then (if bt248.2 = 0 then (if bt250.1.toList = ([33] : List UInt8) then (if bt250.2 = 0 then (if bt252.2 = 3 then (if (bt254.1 == 4 && (bt254.2.1 == 0 && (bt254.2.2.1 == 0 && (bt254.2.2.2.1.toList == ([0, 97] : List UInt8))))) = true then (if bt254.2.2.2.2.1 = 7 then (if bt254.2.2.2.2.2 = 0 then (if bt261.2.2.2.2.2 = 7 then (if bt268.2.2.2.2.2 = 3 then (if bt275.2.2.2.2.2 = 3 then (if bt282.2.2.2.2.2 = 3 then (if bt289.2.2.2.2.2 = 4 then ((col_Compare.f k 2 (-1) 0 (⟨#[]⟩ : ByteArray) 2 0 0 (⟨#[]⟩ : ByteArray)).bind fun t296 => (if t296 = (-1) then ((col_Compare.f k 4 0 0 (⟨#[]⟩ : ByteArray) 3 0 9 (⟨#[]⟩ : ByteArray)).bind fun t297 => (if t297 = 1 then ((col_Right.f k 3 0 9 (⟨#[]⟩ : ByteArray)).bind fun t298 => (if t298 = true then ((col_Right.f k 3 9 0 (⟨#[]⟩ : ByteArray)).bind fun t299 => (if t299 = true then (none) else (some true))) else (none))) else (none))) else (none))) else (none)) else (none)) else (none)) else (none)) else (none)) else (none)) else (none)) else (none)) else (none)) else (none)) else (none)) else (none)) else (none)) else (none)) else (none)) else (none)) else (none))))))))))))) = some r := h
 clear h
 replace H := bM H
 obtain ⟨⟨t244, t245⟩, A10, H⟩ := H
 replace H : ((col_Put.f k 4 0 0 (⟨#[0, 97]⟩ : ByteArray)).bind fun bt246 => ((col_Put.f k 0 0 0 (⟨#[]⟩ : ByteArray)).bind fun bt248 => ((col_Put.f k 1 0 1 (⟨#[]⟩ : ByteArray)).bind fun bt250 => ((col_Put.f k 1 0 2 (⟨#[]⟩ : ByteArray)).bind fun bt252 => ((col_Get.f k (⟨#[122, 80, 0, 255, 97, 0, 1, 121]⟩ : ByteArray) 1).bind fun bt254 => ((col_Get.f k (⟨#[80, 97]⟩ : ByteArray) 0).bind fun bt261 => ((col_Get.f k (⟨#[80, 0, 2]⟩ : ByteArray) 0).bind fun bt268 => ((col_Get.f k (⟨#[17]⟩ : ByteArray) 0).bind fun bt275 => ((col_Get.f k (⟨#[64, 241, 0]⟩ : ByteArray) 0).bind fun bt282 => ((col_Get.f k (⟨#[97]⟩ : ByteArray) 2).bind fun bt289 => (if t244.toList = ([48, 127, 255, 255, 255, 255, 255, 255, 255] : List UInt8) then (if t245 = 0 then (if bt246.1.toList = ([80, 0, 255, 97, 0, 1] : List UInt8) then (if bt246.2 = 0 then (if bt248.1.toList = ([16] : List UInt8) then (if bt248.2 = 0 then (if bt250.1.toList = ([33] : List UInt8) then (if bt250.2 = 0 then (if bt252.2 = 3 then (if (bt254.1 == 4 && (bt254.2.1 == 0 && (bt254.2.2.1 == 0 && (bt254.2.2.2.1.toList == ([0, 97] : List UInt8))))) = true then (if bt254.2.2.2.2.1 = 7 then (if bt254.2.2.2.2.2 = 0 then (if bt261.2.2.2.2.2 = 7 then (if bt268.2.2.2.2.2 = 3 then (if bt275.2.2.2.2.2 = 3 then (if bt282.2.2.2.2.2 = 3 then (if bt289.2.2.2.2.2 = 4 then ((col_Compare.f k 2 (-1) 0 (⟨#[]⟩ : ByteArray) 2 0 0 (⟨#[]⟩ : ByteArray)).bind fun t296 => (if t296 = (-1) then ((col_Compare.f k 4 0 0 (⟨#[]⟩ : ByteArray) 3 0 9 (⟨#[]⟩ : ByteArray)).bind fun t297 => (if t297 = 1 then ((col_Right.f k 3 0 9 (⟨#[]⟩ : ByteArray)).bind fun t298 => (if t298 = true then ((col_Right.f k 3 9 0 (⟨#[]⟩ : ByteArray)).bind fun t299 => (if t299 = true then (none) else (some true))) else (none))) else (none))) else (none))) else (none)) else (none)) else (none)) else (none)) else (none)) else (none)) else (none)) else (none)) else (none)) else (none)) else (none)) else (none)) else (none)) else (none)) else (none)) else (none)) else (none)))))))))))) = some r := H
 have A1 := Aside0.mk A10
 clear A10
 replace H := bM H
 obtain ⟨⟨t246, t247⟩, A20, H⟩ := H
 replace H : ((col_Put.f k 0 0 0 (⟨#[]⟩ : ByteArray)).bind fun bt248 => ((col_Put.f k 1 0 1 (⟨#[]⟩ : ByteArray)).bind fun bt250 => ((col_Put.f k 1 0 2 (⟨#[]⟩ : ByteArray)).bind fun bt252 => ((col_Get.f k (⟨#[122, 80, 0, 255, 97, 0, 1, 121]⟩ : ByteArray) 1).bind fun bt254 => ((col_Get.f k (⟨#[80, 97]⟩ : ByteArray) 0).bind fun bt261 => ((col_Get.f k (⟨#[80, 0, 2]⟩ : ByteArray) 0).bind fun bt268 => ((col_Get.f k (⟨#[17]⟩ : ByteArray) 0).bind fun bt275 => ((col_Get.f k (⟨#[64, 241, 0]⟩ : ByteArray) 0).bind fun bt282 => ((col_Get.f k (⟨#[97]⟩ : ByteArray) 2).bind fun bt289 => (if t244.toList = ([48, 127, 255, 255, 255, 255, 255, 255, 255] : List UInt8) then (if t245 = 0 then (if t246.toList = ([80, 0, 255, 97, 0, 1] : List UInt8) then (if t247 = 0 then (if bt248.1.toList = ([16] : List UInt8) then (if bt248.2 = 0 then (if bt250.1.toList = ([33] : List UInt8) then (if bt250.2 = 0 then (if bt252.2 = 3 then (if (bt254.1 == 4 && (bt254.2.1 == 0 && (bt254.2.2.1 == 0 && (bt254.2.2.2.1.toList == ([0, 97] : List UInt8))))) = true then (if bt254.2.2.2.2.1 = 7 then (if bt254.2.2.2.2.2 = 0 then (if bt261.2.2.2.2.2 = 7 then (if bt268.2.2.2.2.2 = 3 then (if bt275.2.2.2.2.2 = 3 then (if bt282.2.2.2.2.2 = 3 then (if bt289.2.2.2.2.2 = 4 then ((col_Compare.f k 2 (-1) 0 (⟨#[]⟩ : ByteArray) 2 0 0 (⟨#[]⟩ : ByteArray)).bind fun t296 => (if t296 = (-1) then ((col_Compare.f k 4 0 0 (⟨#[]⟩ : ByteArray) 3 0 9 (⟨#[]⟩ : ByteArray)).bind fun t297 => (if t297 = 1 then ((col_Right.f k 3 0 9 (⟨#[]⟩ : ByteArray)).bind fun t298 => (if t298 = true then ((col_Right.f k 3 9 0 (⟨#[]⟩ : ByteArray)).bind fun t299 => (if t299 = true then (none) else (some true))) else (none))) else (none))) else (none))) else (none)) else (none)) else (none)) else (none)) else (none)) else (none)) else (none)) else (none)) else (none)) else (none)) else (none)) else (none)) else (none)) else (none)) else (none)) else (none)) else (none))))))))))) = some r := H
 have A2 := Aside0.mk A20
 clear A20
 replace H := bM H
 obtain ⟨⟨t248, t249⟩, A30, H⟩ := H
 replace H : ((col_Put.f k 1 0 1 (⟨#[]⟩ : ByteArray)).bind fun bt250 => ((col_Put.f k 1 0 2 (⟨#[]⟩ : ByteArray)).bind fun bt252 => ((col_Get.f k (⟨#[122, 80, 0, 255, 97, 0, 1, 121]⟩ : ByteArray) 1).bind fun bt254 => ((col_Get.f k (⟨#[80, 97]⟩ : ByteArray) 0).bind fun bt261 => ((col_Get.f k (⟨#[80, 0, 2]⟩ : ByteArray) 0).bind fun bt268 => ((col_Get.f k (⟨#[17]⟩ : ByteArray) 0).bind fun bt275 => ((col_Get.f k (⟨#[64, 241, 0]⟩ : ByteArray) 0).bind fun bt282 => ((col_Get.f k (⟨#[97]⟩ : ByteArray) 2).bind fun bt289 => (if t244.toList = ([48, 127, 255, 255, 255, 255, 255, 255, 255] : List UInt8) then (if t245 = 0 then (if t246.toList = ([80, 0, 255, 97, 0, 1] : List UInt8) then (if t247 = 0 then (if t248.toList = ([16] : List UInt8) then (if t249 = 0 then (if bt250.1.toList = ([33] : List UInt8) then (if bt250.2 = 0 then (if bt252.2 = 3 then (if (bt254.1 == 4 && (bt254.2.1 == 0 && (bt254.2.2.1 == 0 && (bt254.2.2.2.1.toList == ([0, 97] : List UInt8))))) = true then (if bt254.2.2.2.2.1 = 7 then (if bt254.2.2.2.2.2 = 0 then (if bt261.2.2.2.2.2 = 7 then (if bt268.2.2.2.2.2 = 3 then (if bt275.2.2.2.2.2 = 3 then (if bt282.2.2.2.2.2 = 3 then (if bt289.2.2.2.2.2 = 4 then ((col_Compare.f k 2 (-1) 0 (⟨#[]⟩ : ByteArray) 2 0 0 (⟨#[]⟩ : ByteArray)).bind fun t296 => (if t296 = (-1) then ((col_Compare.f k 4 0 0 (⟨#[]⟩ : ByteArray) 3 0 9 (⟨#[]⟩ : ByteArray)).bind fun t297 => (if t297 = 1 then ((col_Right.f k 3 0 9 (⟨#[]⟩ : ByteArray)).bind fun t298 => (if t298 = true then ((col_Right.f k 3 9 0 (⟨#[]⟩ : ByteArray)).bind fun t299 => (if t299 = true then (none) else (some true))) else (none))) else (none))) else (none))) else (none)) else (none)) else (none)) else (none)) else (none)) else (none)) else (none)) else (none)) else (none)) else (none)) else (none)) else (none)) else (none)) else (none)) else (none)) else (none)) else (none)))))))))) = some r := H
 have A3 := Aside0.mk A30
 clear A30
 replace H := bM H
 obtain ⟨⟨t250, t251⟩, A40, H⟩ := H
 replace H : ((col_Put.f k 1 0 2 (⟨#[]⟩ : ByteArray)).bind fun bt252 => ((col_Get.f k (⟨#[122, 80, 0, 255, 97, 0, 1, 121]⟩ : ByteArray) 1).bind fun bt254 => ((col_Get.f k (⟨#[80, 97]⟩ : ByteArray) 0).bind fun bt261 => ((col_Get.f k (⟨#[80, 0, 2]⟩ : ByteArray) 0).bind fun bt268 => ((col_Get.f k (⟨#[17]⟩ : ByteArray) 0).bind fun bt275 => ((col_Get.f k (⟨#[64, 241, 0]⟩ : ByteArray) 0).bind fun bt282 => ((col_Get.f k (⟨#[97]⟩ : ByteArray) 2).bind fun bt289 => (if t244.toList = ([48, 127, 255, 255, 255, 255, 255, 255, 255] : List UInt8) then (if t245 = 0 then (if t246.toList = ([80, 0, 255, 97, 0, 1] : List UInt8) then (if t247 = 0 then (if t248.toList = ([16] : List UInt8) then (if t249 = 0 then (if t250.toList = ([33] : List UInt8) then (if t251 = 0 then (if bt252.2 = 3 then (if (bt254.1 == 4 && (bt254.2.1 == 0 && (bt254.2.2.1 == 0 && (bt254.2.2.2.1.toList == ([0, 97] : List UInt8))))) = true then (if bt254.2.2.2.2.1 = 7 then (if bt254.2.2.2.2.2 = 0 then (if bt261.2.2.2.2.2 = 7 then (if bt268.2.2.2.2.2 = 3 then (if bt275.2.2.2.2.2 = 3 then (if bt282.2.2.2.2.2 = 3 then (if bt289.2.2.2.2.2 = 4 then ((col_Compare.f k 2 (-1) 0 (⟨#[]⟩ : ByteArray) 2 0 0 (⟨#[]⟩ : ByteArray)).bind fun t296 => (if t296 = (-1) then ((col_Compare.f k 4 0 0 (⟨#[]⟩ : ByteArray) 3 0 9 (⟨#[]⟩ : ByteArray)).bind fun t297 => (if t297 = 1 then ((col_Right.f k 3 0 9 (⟨#[]⟩ : ByteArray)).bind fun t298 => (if t298 = true then ((col_Right.f k 3 9 0 (⟨#[]⟩ : ByteArray)).bind fun t299 => (if t299 = true then (none) else (some true))) else (none))) else (none))) else (none))) else (none)) else (none)) else (none)) else (none)) else (none)) else (none)) else (none)) else (none)) else (none)) else (none)) else (none)) else (none)) else (none)) else (none)) else (none)) else (none)) else (none))))))))) = some r := H
 have A4 := Aside0.mk A40
 clear A40
 replace H := bM H
 obtain ⟨⟨t252, t253⟩, A50, H⟩ := H
 replace H : ((col_Get.f k (⟨#[122, 80, 0, 255, 97, 0, 1, 121]⟩ : ByteArray) 1).bind fun bt254 => ((col_Get.f k (⟨#[80, 97]⟩ : ByteArray) 0).bind fun bt261 => ((col_Get.f k (⟨#[80, 0, 2]⟩ : ByteArray) 0).bind fun bt268 => ((col_Get.f k (⟨#[17]⟩ : ByteArray) 0).bind fun bt275 => ((col_Get.f k (⟨#[64, 241, 0]⟩ : ByteArray) 0).bind fun bt282 => ((col_Get.f k (⟨#[97]⟩ : ByteArray) 2).bind fun bt289 => (if t244.toList = ([48, 127, 255, 255, 255, 255, 255, 255, 255] : List UInt8) then (if t245 = 0 then (if t246.toList = ([80, 0, 255, 97, 0, 1] : List UInt8) then (if t247 = 0 then (if t248.toList = ([16] : List UInt8) then (if t249 = 0 then (if t250.toList = ([33] : List UInt8) then (if t251 = 0 then (if t253 = 3 then (if (bt254.1 == 4 && (bt254.2.1 == 0 && (bt254.2.2.1 == 0 && (bt254.2.2.2.1.toList == ([0, 97] : List UInt8))))) = true then (if bt254.2.2.2.2.1 = 7 then (if bt254.2.2.2.2.2 = 0 then (if bt261.2.2.2.2.2 = 7 then (if bt268.2.2.2.2.2 = 3 then (if bt275.2.2.2.2.2 = 3 then (if bt282.2.2.2.2.2 = 3 then (if bt289.2.2.2.2.2 = 4 then ((col_Compare.f k 2 (-1) 0 (⟨#[]⟩ : ByteArray) 2 0 0 (⟨#[]⟩ : ByteArray)).bind fun t296 => (if t296 = (-1) then ((col_Compare.f k 4 0 0 (⟨#[]⟩ : ByteArray) 3 0 9 (⟨#[]⟩ : ByteArray)).bind fun t297 => (if t297 = 1 then ((col_Right.f k 3 0 9 (⟨#[]⟩ : ByteArray)).bind fun t298 => (if t298 = true then ((col_Right.f k 3 9 0 (⟨#[]⟩ : ByteArray)).bind fun t299 => (if t299 = true then (none) else (some true))) else (none))) else (none))) else (none))) else (none)) else (none)) else (none)) else (none)) else (none)) else (none)) else (none)) else (none)) else (none)) else (none)) else (none)) else (none)) else (none)) else (none)) else (none)) else (none)) else (none)))))))) = some r := H
 have A5 := Aside0.mk A50
 clear A50
 replace H := bM H
 obtain ⟨⟨t254, t255, t256, t257, t258, t259⟩, A60, H⟩ := H
 replace H : ((col_Get.f k (⟨#[80, 97]⟩ : ByteArray) 0).bind fun bt261 => ((col_Get.f k (⟨#[80, 0, 2]⟩ : ByteArray) 0).bind fun bt268 => ((col_Get.f k (⟨#[17]⟩ : ByteArray) 0).bind fun bt275 => ((col_Get.f k (⟨#[64, 241, 0]⟩ : ByteArray) 0).bind fun bt282 => ((col_Get.f k (⟨#[97]⟩ : ByteArray) 2).bind fun bt289 => (if t244.toList = ([48, 127, 255, 255, 255, 255, 255, 255, 255] : List UInt8) then (if t245 = 0 then (if t246.toList = ([80, 0, 255, 97, 0, 1] : List UInt8) then (if t247 = 0 then (if t248.toList = ([16] : List UInt8) then (if t249 = 0 then (if t250.toList = ([33] : List UInt8) then (if t251 = 0 then (if t253 = 3 then (if (t254 == 4 && (t255 == 0 && (t256 == 0 && (t257.toList == ([0, 97] : List UInt8))))) = true then (if t258 = 7 then (if t259 = 0 then (if bt261.2.2.2.2.2 = 7 then (if bt268.2.2.2.2.2 = 3 then (if bt275.2.2.2.2.2 = 3 then (if bt282.2.2.2.2.2 = 3 then (if bt289.2.2.2.2.2 = 4 then ((col_Compare.f k 2 (-1) 0 (⟨#[]⟩ : ByteArray) 2 0 0 (⟨#[]⟩ : ByteArray)).bind fun t296 => (if t296 = (-1) then ((col_Compare.f k 4 0 0 (⟨#[]⟩ : ByteArray) 3 0 9 (⟨#[]⟩ : ByteArray)).bind fun t297 => (if t297 = 1 then ((col_Right.f k 3 0 9 (⟨#[]⟩ : ByteArray)).bind fun t298 => (if t298 = true then ((col_Right.f k 3 9 0 (⟨#[]⟩ : ByteArray)).bind fun t299 => (if t299 = true then (none) else (some true))) else (none))) else (none))) else (none))) else (none)) else (none)) else (none)) else (none)) else (none)) else (none)) else (none)) else (none)) else (none)) else (none)) else (none)) else (none)) else (none)) else (none)) else (none)) else (none)) else (none))))))) = some r := H
 have A6 := Aside0.mk A60
 clear A60
 replace H := bM H
 obtain ⟨⟨t261, t262, t263, t264, t265, t266⟩, A70, H⟩ := H
 replace H : ((col_Get.f k (⟨#[80, 0, 2]⟩ : ByteArray) 0).bind fun bt268 => ((col_Get.f k (⟨#[17]⟩ : ByteArray) 0).bind fun bt275 => ((col_Get.f k (⟨#[64, 241, 0]⟩ : ByteArray) 0).bind fun bt282 => ((col_Get.f k (⟨#[97]⟩ : ByteArray) 2).bind fun bt289 => (if t244.toList = ([48, 127, 255, 255, 255, 255, 255, 255, 255] : List UInt8) then (if t245 = 0 then (if t246.toList = ([80, 0, 255, 97, 0, 1] : List UInt8) then (if t247 = 0 then (if t248.toList = ([16] : List UInt8) then (if t249 = 0 then (if t250.toList = ([33] : List UInt8) then (if t251 = 0 then (if t253 = 3 then (if (t254 == 4 && (t255 == 0 && (t256 == 0 && (t257.toList == ([0, 97] : List UInt8))))) = true then (if t258 = 7 then (if t259 = 0 then (if t266 = 7 then (if bt268.2.2.2.2.2 = 3 then (if bt275.2.2.2.2.2 = 3 then (if bt282.2.2.2.2.2 = 3 then (if bt289.2.2.2.2.2 = 4 then ((col_Compare.f k 2 (-1) 0 (⟨#[]⟩ : ByteArray) 2 0 0 (⟨#[]⟩ : ByteArray)).bind fun t296 => (if t296 = (-1) then ((col_Compare.f k 4 0 0 (⟨#[]⟩ : ByteArray) 3 0 9 (⟨#[]⟩ : ByteArray)).bind fun t297 => (if t297 = 1 then ((col_Right.f k 3 0 9 (⟨#[]⟩ : ByteArray)).bind fun t298 => (if t298 = true then ((col_Right.f k 3 9 0 (⟨#[]⟩ : ByteArray)).bind fun t299 => (if t299 = true then (none) else (some true))) else (none))) else (none))) else (none))) else (none)) else (none)) else (none)) else (none)) else (none)) else (none)) else (none)) else (none)) else (none)) else (none)) else (none)) else (none)) else (none)) else (none)) else (none)) else (none)) else (none)))))) = some r := H
 have A7 := Aside0.mk A70
 clear A70
 replace H := bM H
 obtain ⟨⟨t268, t269, t270, t271, t272, t273⟩, A80, H⟩ := H
 replace H : ((col_Get.f k (⟨#[17]⟩ : ByteArray) 0).bind fun bt275 => ((col_Get.f k (⟨#[64, 241, 0]⟩ : ByteArray) 0).bind fun bt282 => ((col_Get.f k (⟨#[97]⟩ : ByteArray) 2).bind fun bt289 => (if t244.toList = ([48, 127, 255, 255, 255, 255, 255, 255, 255] : List UInt8) then (if t245 = 0 then (if t246.toList = ([80, 0, 255, 97, 0, 1] : List UInt8) then (if t247 = 0 then (if t248.toList = ([16] : List UInt8) then (if t249 = 0 then (if t250.toList = ([33] : List UInt8) then (if t251 = 0 then (if t253 = 3 then (if (t254 == 4 && (t255 == 0 && (t256 == 0 && (t257.toList == ([0, 97] : List UInt8))))) = true then (if t258 = 7 then (if t259 = 0 then (if t266 = 7 then (if t273 = 3 then (if bt275.2.2.2.2.2 = 3 then (if bt282.2.2.2.2.2 = 3 then (if bt289.2.2.2.2.2 = 4 then ((col_Compare.f k 2 (-1) 0 (⟨#[]⟩ : ByteArray) 2 0 0 (⟨#[]⟩ : ByteArray)).bind fun t296 => (if t296 = (-1) then ((col_Compare.f k 4 0 0 (⟨#[]⟩ : ByteArray) 3 0 9 (⟨#[]⟩ : ByteArray)).bind fun t297 => (if t297 = 1 then ((col_Right.f k 3 0 9 (⟨#[]⟩ : ByteArray)).bind fun t298 => (if t298 = true then ((col_Right.f k 3 9 0 (⟨#[]⟩ : ByteArray)).bind fun t299 => (if t299 = true then (none) else (some true))) else (none))) else (none))) else (none))) else (none)) else (none)) else (none)) else (none)) else (none)) else (none)) else (none)) else (none)) else (none)) else (none)) else (none)) else (none)) else (none)) else (none)) else (none)) else (none)) else (none))))) = some r := H
 have A8 := Aside0.mk A80
 clear A80
 replace H := bM H
 obtain ⟨⟨t275, t276, t277, t278, t279, t280⟩, A90, H⟩ := H
 replace H : ((col_Get.f k (⟨#[64, 241, 0]⟩ : ByteArray) 0).bind fun bt282 => ((col_Get.f k (⟨#[97]⟩ : ByteArray) 2).bind fun bt289 => (if t244.toList = ([48, 127, 255, 255, 255, 255, 255, 255, 255] : List UInt8) then (if t245 = 0 then (if t246.toList = ([80, 0, 255, 97, 0, 1] : List UInt8) then (if t247 = 0 then (if t248.toList = ([16] : List UInt8) then (if t249 = 0 then (if t250.toList = ([33] : List UInt8) then (if t251 = 0 then (if t253 = 3 then (if (t254 == 4 && (t255 == 0 && (t256 == 0 && (t257.toList == ([0, 97] : List UInt8))))) = true then (if t258 = 7 then (if t259 = 0 then (if t266 = 7 then (if t273 = 3 then (if t280 = 3 then (if bt282.2.2.2.2.2 = 3 then (if bt289.2.2.2.2.2 = 4 then ((col_Compare.f k 2 (-1) 0 (⟨#[]⟩ : ByteArray) 2 0 0 (⟨#[]⟩ : ByteArray)).bind fun t296 => (if t296 = (-1) then ((col_Compare.f k 4 0 0 (⟨#[]⟩ : ByteArray) 3 0 9 (⟨#[]⟩ : ByteArray)).bind fun t297 => (if t297 = 1 then ((col_Right.f k 3 0 9 (⟨#[]⟩ : ByteArray)).bind fun t298 => (if t298 = true then ((col_Right.f k 3 9 0 (⟨#[]⟩ : ByteArray)).bind fun t299 => (if t299 = true then (none) else (some true))) else (none))) else (none))) else (none))) else (none)) else (none)) else (none)) else (none)) else (none)) else (none)) else (none)) else (none)) else (none)) else (none)) else (none)) else (none)) else (none)) else (none)) else (none)) else (none)) else (none)))) = some r := H
 have A9 := Aside0.mk A90
 clear A90
 replace H := bM H
 obtain ⟨⟨t282, t283, t284, t285, t286, t287⟩, A100, H⟩ := H
 replace H : ((col_Get.f k (⟨#[97]⟩ : ByteArray) 2).bind fun bt289 => (if t244.toList = ([48, 127, 255, 255, 255, 255, 255, 255, 255] : List UInt8) then (if t245 = 0 then (if t246.toList = ([80, 0, 255, 97, 0, 1] : List UInt8) then (if t247 = 0 then (if t248.toList = ([16] : List UInt8) then (if t249 = 0 then (if t250.toList = ([33] : List UInt8) then (if t251 = 0 then (if t253 = 3 then (if (t254 == 4 && (t255 == 0 && (t256 == 0 && (t257.toList == ([0, 97] : List UInt8))))) = true then (if t258 = 7 then (if t259 = 0 then (if t266 = 7 then (if t273 = 3 then (if t280 = 3 then (if t287 = 3 then (if bt289.2.2.2.2.2 = 4 then ((col_Compare.f k 2 (-1) 0 (⟨#[]⟩ : ByteArray) 2 0 0 (⟨#[]⟩ : ByteArray)).bind fun t296 => (if t296 = (-1) then ((col_Compare.f k 4 0 0 (⟨#[]⟩ : ByteArray) 3 0 9 (⟨#[]⟩ : ByteArray)).bind fun t297 => (if t297 = 1 then ((col_Right.f k 3 0 9 (⟨#[]⟩ : ByteArray)).bind fun t298 => (if t298 = true then ((col_Right.f k 3 9 0 (⟨#[]⟩ : ByteArray)).bind fun t299 => (if t299 = true then (none) else (some true))) else (none))) else (none))) else (none))) else (none)) else (none)) else (none)) else (none)) else (none)) else (none)) else (none)) else (none)) else (none)) else (none)) else (none)) else (none)) else (none)) else (none)) else (none)) else (none)) else (none))) = some r := H
 have A10 := Aside0.mk A100
 clear A100
 replace H := bM H
 obtain ⟨⟨t289, t290, t291, t292, t293, t294⟩, A110, H⟩ := H
 replace H : (if t244.toList = ([48, 127, 255, 255, 255, 255, 255, 255, 255] : List UInt8) then (if t245 = 0 then (if t246.toList = ([80, 0, 255, 97, 0, 1] : List UInt8) then (if t247 = 0 then (if t248.toList = ([16] : List UInt8) then (if t249 = 0 then (if t250.toList = ([33] : List UInt8) then (if t251 = 0 then (if t253 = 3 then (if (t254 == 4 && (t255 == 0 && (t256 == 0 && (t257.toList == ([0, 97] : List UInt8))))) = true then (if t258 = 7 then (if t259 = 0 then (if t266 = 7 then (if t273 = 3 then (if t280 = 3 then (if t287 = 3 then (if t294 = 4 then ((col_Compare.f k 2 (-1) 0 (⟨#[]⟩ : ByteArray) 2 0 0 (⟨#[]⟩ : ByteArray)).bind fun t296 => (if t296 = (-1) then ((col_Compare.f k 4 0 0 (⟨#[]⟩ : ByteArray) 3 0 9 (⟨#[]⟩ : ByteArray)).bind fun t297 => (if t297 = 1 then ((col_Right.f k 3 0 9 (⟨#[]⟩ : ByteArray)).bind fun t298 => (if t298 = true then ((col_Right.f k 3 9 0 (⟨#[]⟩ : ByteArray)).bind fun t299 => (if t299 = true then (none) else (some true))) else (none))) else (none))) else (none))) else (none)) else (none)) else (none)) else (none)) else (none)) else (none)) else (none)) else (none)) else (none)) else (none)) else (none)) else (none)) else (none)) else (none)) else (none)) else (none)) else (none)) = some r := H
 have A11 := Aside0.mk A110
 clear A110
 by_cases c12 : t244.toList = ([48, 127, 255, 255, 255, 255, 255, 255, 255] : List UInt8)
 rotate_left
 ·rw [if_neg c12] at H
  exact absurd H (by simp)
 
 rw [if_pos c12] at H
 have c12b0 : (t244.toList == ([48, 127, 255, 255, 255, 255, 255, 255, 255] : List UInt8)) = true := beq_iff_eq.mpr c12
 have c12b1 : (t244.toList != ([48, 127, 255, 255, 255, 255, 255, 255, 255] : List UInt8)) = false := bne_eq_false_iff_eq.mpr c12
 clear c12
 by_cases c13 : t245 = 0
 rotate_left
 ·rw [if_neg c13] at H
  exact absurd H (by simp)
 rw [if_pos c13] at H
 have c13b0 : (t245 == 0) = true := beq_iff_eq.mpr c13
 have c13b1 : (t245 != 0) = false := bne_eq_false_iff_eq.mpr c13
 clear c13
 by_cases c14 : t246.toList = ([80, 0, 255, 97, 0, 1] : List UInt8)
 rotate_left
 ·rw [if_neg c14] at H
  exact absurd H (by simp)
 rw [if_pos c14] at H
 have c14b0 : (t246.toList == ([80, 0, 255, 97, 0, 1] : List UInt8)) = true := beq_iff_eq.mpr c14
 have c14b1 : (t246.toList != ([80, 0, 255, 97, 0, 1] : List UInt8)) = false := bne_eq_false_iff_eq.mpr c14
 clear c14
 by_cases c15 : t247 = 0
 rotate_left
 ·rw [if_neg c15] at H
  exact absurd H (by simp)
 rw [if_pos c15] at H
 have c15b0 : (t247 == 0) = true := beq_iff_eq.mpr c15
 have c15b1 : (t247 != 0) = false := bne_eq_false_iff_eq.mpr c15
 clear c15
 by_cases c16 : t248.toList = ([16] : List UInt8)
 rotate_left
 ·rw [if_neg c16] at H
  exact absurd H (by simp)
 rw [if_pos c16] at H
 have c16b0 : (t248.toList == ([16] : List UInt8)) = true := beq_iff_eq.mpr c16
 have c16b1 : (t248.toList != ([16] : List UInt8)) = false := bne_eq_false_iff_eq.mpr c16
 clear c16
 by_cases c17 : t249 = 0
 rotate_left
 ·rw [if_neg c17] at H
  exact absurd H (by simp)
 rw [if_pos c17] at H
 have c17b0 : (t249 == 0) = true := beq_iff_eq.mpr c17
 have c17b1 : (t249 != 0) = false := bne_eq_false_iff_eq.mpr c17
 clear c17
 by_cases c18 : t250.toList = ([33] : List UInt8)
 rotate_left
 ·rw [if_neg c18] at H
  exact absurd H (by simp)
 rw [if_pos c18] at H
 have c18b0 : (t250.toList == ([33] : List UInt8)) = true := beq_iff_eq.mpr c18
 have c18b1 : (t250.toList != ([33] : List UInt8)) = false := bne_eq_false_iff_eq.mpr c18
 clear c18
 by_cases c19 : t251 = 0
 rotate_left
 ·rw [if_neg c19] at H
  exact absurd H (by simp)
 rw [if_pos c19] at H
 have c19b0 : (t251 == 0) = true := beq_iff_eq.mpr c19
 have c19b1 : (t251 != 0) = false := bne_eq_false_iff_eq.mpr c19
 clear c19
 by_cases c20 : t253 = 3
 rotate_left
 ·rw [if_neg c20] at H
  exact absurd H (by simp)
 rw [if_pos c20] at H
 have c20b0 : (t253 == 3) = true := beq_iff_eq.mpr c20
 have c20b1 : (t253 != 3) = false := bne_eq_false_iff_eq.mpr c20
 clear c20
 by_cases c21 : (t254 == 4 && (t255 == 0 && (t256 == 0 && (t257.toList == ([0, 97] : List UInt8))))) = true
 rotate_left
 ·rw [if_neg c21] at H
  exact absurd H (by simp)
 rw [if_pos c21] at H
 have c21b0 : (t254 == 4 && (t255 == 0 && (t256 == 0 && (t257.toList == ([0, 97] : List UInt8))))) = true := c21
 (try (have c21b8 : (t254 = 4 ∧ t255 = 0 ∧ t256 = 0 ∧ t257.toList = [0, 97]) = True := eq_true (by simpa using c21)))
 (try (have c21b1 : t254 = 4 && (t255 == 0 && (t256 == 0 && (t257.toList == ([0, 97] : List UInt8)))) := by simpa using c21))
 (try (have c21b2 : decide (t254 = 4 && (t255 == 0 && (t256 == 0 && (t257.toList == ([0, 97] : List UInt8))))) = true := by simpa using c21))
 (try (have c21b3 : (t254 == 4 && (t255 == 0 && (t256 == 0 && (t257.toList == ([0, 97] : List UInt8))))) = true := by simpa using c21))
 clear c21
 by_cases c22 : t258 = 7
 rotate_left
 ·rw [if_neg c22] at H
  exact absurd H (by simp)
 rw [if_pos c22] at H
 have c22b0 : (t258 == 7) = true := beq_iff_eq.mpr c22
 have c22b1 : (t258 != 7) = false := bne_eq_false_iff_eq.mpr c22
 clear c22
 by_cases c23 : t259 = 0
 rotate_left
 ·rw [if_neg c23] at H
  exact absurd H (by simp)
 rw [if_pos c23] at H
 have c23b0 : (t259 == 0) = true := beq_iff_eq.mpr c23
 have c23b1 : (t259 != 0) = false := bne_eq_false_iff_eq.mpr c23
 clear c23
 by_cases c24 : t266 = 7
 rotate_left
 ·rw [if_neg c24] at H
  exact absurd H (by simp)
 rw [if_pos c24] at H
 have c24b0 : (t266 == 7) = true := beq_iff_eq.mpr c24
 have c24b1 : (t266 != 7) = false := bne_eq_false_iff_eq.mpr c24
 clear c24
 by_cases c25 : t273 = 3
 rotate_left
 ·rw [if_neg c25] at H
  exact absurd H (by simp)
 rw [if_pos c25] at H
 have c25b0 : (t273 == 3) = true := beq_iff_eq.mpr c25
 have c25b1 : (t273 != 3) = false := bne_eq_false_iff_eq.mpr c25
 clear c25
 by_cases c26 : t280 = 3
 rotate_left
 ·rw [if_neg c26] at H
  exact absurd H (by simp)
 rw [if_pos c26] at H
 have c26b0 : (t280 == 3) = true := beq_iff_eq.mpr c26
 have c26b1 : (t280 != 3) = false := bne_eq_false_iff_eq.mpr c26
 clear c26
 by_cases c27 : t287 = 3
 rotate_left
 ·rw [if_neg c27] at H
  exact absurd H (by simp)
 rw [if_pos c27] at H
 have c27b0 : (t287 == 3) = true := beq_iff_eq.mpr c27
 have c27b1 : (t287 != 3) = false := bne_eq_false_iff_eq.mpr c27
 clear c27
 by_cases c28 : t294 = 4
 rotate_left
 ·rw [if_neg c28] at H
  exact absurd H (by simp)
 rw [if_pos c28] at H
 have c28b0 : (t294 == 4) = true := beq_iff_eq.mpr c28
 have c28b1 : (t294 != 4) = false := bne_eq_false_iff_eq.mpr c28
 clear c28
 replace H := bM H
 obtain ⟨t296, A290, H⟩ := H
 replace H : (if t296 = (-1) then ((col_Compare.f k 4 0 0 (⟨#[]⟩ : ByteArray) 3 0 9 (⟨#[]⟩ : ByteArray)).bind fun t297 => (if t297 = 1 then ((col_Right.f k 3 0 9 (⟨#[]⟩ : ByteArray)).bind fun t298 => (if t298 = true then ((col_Right.f k 3 9 0 (⟨#[]⟩ : ByteArray)).bind fun t299 => (if t299 = true then (none) else (some true))) else (none))) else (none))) else (none)) = some r := H
 have A29 := Aside0.mk A290
 clear A290
 by_cases c30 : t296 = (-1)
 rotate_left
 ·rw [if_neg c30] at H
  exact absurd H (by simp)
 rw [if_pos c30] at H
 have c30b0 : (t296 == (-1)) = true := beq_iff_eq.mpr c30
 have c30b1 : (t296 != (-1)) = false := bne_eq_false_iff_eq.mpr c30
 clear c30
 replace H := bM H
 obtain ⟨t297, A310, H⟩ := H
 replace H : (if t297 = 1 then ((col_Right.f k 3 0 9 (⟨#[]⟩ : ByteArray)).bind fun t298 => (if t298 = true then ((col_Right.f k 3 9 0 (⟨#[]⟩ : ByteArray)).bind fun t299 => (if t299 = true then (none) else (some true))) else (none))) else (none)) = some r := H
 have A31 := Aside0.mk A310
 clear A310
 by_cases c32 : t297 = 1
 rotate_left
 ·rw [if_neg c32] at H
  exact absurd H (by simp)
 rw [if_pos c32] at H
 have c32b0 : (t297 == 1) = true := beq_iff_eq.mpr c32
 have c32b1 : (t297 != 1) = false := bne_eq_false_iff_eq.mpr c32
 clear c32
 replace H := bM H
 obtain ⟨t298, A330, H⟩ := H
 replace H : (if t298 = true then ((col_Right.f k 3 9 0 (⟨#[]⟩ : ByteArray)).bind fun t299 => (if t299 = true then (none) else (some true))) else (none)) = some r := H
 have A33 := Aside0.mk A330
 clear A330
 by_cases c34 : t298 = true
 rotate_left
 ·replace c34 := Bool.eq_false_iff.mpr c34
  subst c34
  have H1 : (none) = some r := by rw [if_neg (show ¬ (false = true) by decide)] at H; exact H
  clear H
  have H := H1
  clear H1
  exact absurd H (by simp)
 subst c34
 have H1 : ((col_Right.f k 3 9 0 (⟨#[]⟩ : ByteArray)).bind fun t299 => (if t299 = true then (none) else (some true))) = some r := by rw [if_pos rfl] at H; exact H
 clear H
 have H := H1
 clear H1
 replace H := bM H
 obtain ⟨t299, A350, H⟩ := H
 replace H : (if t299 = true then (none) else (some true)) = some r := H
 have A35 := Aside0.mk A350
 clear A350
 by_cases c36 : t299 = true
 ·subst c36
  have H1 : (none) = some r := by rw [if_pos rfl] at H; exact H
  clear H
  have H := H1
  clear H1
  exact absurd H (by simp)
 replace c36 := Bool.eq_false_iff.mpr c36
 subst c36
 have H1 : (some true) = some r := by rw [if_neg (show ¬ (false = true) by decide)] at H; exact H
 clear H
 have H := H1
 clear H1
 obtain rfl := Option.some.inj H
 go_enter Tryd.func19, Tryd.ntmps19
 (try simp only [List.append_eq, List.cons_append, List.nil_append])
 go_wp2_with (first | ((with_reducible refine gate_callee (f := 10) rfl ?_); refine goesL_ (some 31) rfl rfl Tryd.func10 (by kernel_rfl) rfl #[.agg #[.int .i64 2, .int .i64 (-1), .int .u64 0, .string (⟨#[]⟩ : ByteArray)]] rfl aO ?_; (with_reducible refine (col_Put.calls k 2 (-1) 0 (⟨#[]⟩ : ByteArray) t244 t245 _ A1.out).mono ?_); rintro e w37 ⟨rfl, hb⟩; refine ⟨_, rfl, ?_⟩; replace HB := as_ (below_step bA hb); (try clear hb); (try clear hb2); (try clear hk); (try clear hi)) | ((with_reducible refine gate_callee (f := 10) rfl ?_); refine goesL_ (some 36) rfl rfl Tryd.func10 (by kernel_rfl) rfl #[.agg #[.int .i64 4, .int .i64 0, .int .u64 0, .string (⟨#[0, 97]⟩ : ByteArray)]] rfl aO ?_; (with_reducible refine (col_Put.calls k 4 0 0 (⟨#[0, 97]⟩ : ByteArray) t246 t247 _ A2.out).mono ?_); rintro e w38 ⟨rfl, hb⟩; refine ⟨_, rfl, ?_⟩; replace HB := as_ (below_step bA hb); (try clear hb); (try clear hb2); (try clear hk); (try clear hi)) | ((with_reducible refine gate_callee (f := 10) rfl ?_); refine goesL_ (some 41) rfl rfl Tryd.func10 (by kernel_rfl) rfl #[.agg #[.int .i64 0, .int .i64 0, .int .u64 0, .string (⟨#[]⟩ : ByteArray)]] rfl aO ?_; (with_reducible refine (col_Put.calls k 0 0 0 (⟨#[]⟩ : ByteArray) t248 t249 _ A3.out).mono ?_); rintro e w39 ⟨rfl, hb⟩; refine ⟨_, rfl, ?_⟩; replace HB := as_ (below_step bA hb); (try clear hb); (try clear hb2); (try clear hk); (try clear hi)) | ((with_reducible refine gate_callee (f := 10) rfl ?_); refine goesL_ (some 46) rfl rfl Tryd.func10 (by kernel_rfl) rfl #[.agg #[.int .i64 1, .int .i64 0, .int .u64 1, .string (⟨#[]⟩ : ByteArray)]] rfl aO ?_; (with_reducible refine (col_Put.calls k 1 0 1 (⟨#[]⟩ : ByteArray) t250 t251 _ A4.out).mono ?_); rintro e w40 ⟨rfl, hb⟩; refine ⟨_, rfl, ?_⟩; replace HB := as_ (below_step bA hb); (try clear hb); (try clear hb2); (try clear hk); (try clear hi)) | ((with_reducible refine gate_callee (f := 10) rfl ?_); refine goesL_ (some 51) rfl rfl Tryd.func10 (by kernel_rfl) rfl #[.agg #[.int .i64 1, .int .i64 0, .int .u64 2, .string (⟨#[]⟩ : ByteArray)]] rfl aO ?_; (with_reducible refine (col_Put.calls k 1 0 2 (⟨#[]⟩ : ByteArray) t252 t253 _ A5.out).mono ?_); rintro e w41 ⟨rfl, hb⟩; refine ⟨_, rfl, ?_⟩; replace HB := as_ (below_step bA hb); (try clear hb); (try clear hb2); (try clear hk); (try clear hi)) | ((with_reducible refine gate_callee (f := 13) rfl ?_); refine goesL_ (some 55) rfl rfl Tryd.func13 (by kernel_rfl) rfl #[.string (⟨#[122, 80, 0, 255, 97, 0, 1, 121]⟩ : ByteArray), .int .i64 1] rfl aO ?_; (with_reducible refine (col_Get.calls k (⟨#[122, 80, 0, 255, 97, 0, 1, 121]⟩ : ByteArray) 1 t254 t255 t256 t257 t258 t259 _ A6.out).mono ?_); rintro e w42 ⟨rfl, hb⟩; refine ⟨_, rfl, ?_⟩; replace HB := as_ (below_step bA hb); (try clear hb); (try clear hb2); (try clear hk); (try clear hi)) | ((with_reducible refine gate_dst (N := 11) rfl ?_); refine box_event ?hg (N := 11) ?hd (cs := #[.int .i64 0, .int .i64 0, .int .u64 0, .string (⟨#[]⟩ : ByteArray)]) (t := 24) ?hr ?_; (case hd => rfl); (case hg => rfl); (case hr => first | (go_simp; done) | (go_simp; rfl)); intro gb260 hg w43 hbox hb; have BK260 := as_ (hbox); have GW260 := gw hg bA; have GE260 := gw hg bA; replace HB := as_ (below_step bA hb); clear hb hbox hg; obtain ⟨hcz44_0, hcz44_1, hcz44_2, hcz44_3⟩ := zc4 BK260; obtain ⟨hfz44_0, hfz44_1, hfz44_2, hfz44_3⟩ := zf4 BK260) | ((with_reducible refine gate_callee (f := 13) rfl ?_); refine goesL_ (some 60) rfl rfl Tryd.func13 (by kernel_rfl) rfl #[.string (⟨#[80, 97]⟩ : ByteArray), .int .i64 0] rfl aO ?_; (with_reducible refine (col_Get.calls k (⟨#[80, 97]⟩ : ByteArray) 0 t261 t262 t263 t264 t265 t266 _ A7.out).mono ?_); rintro e w45 ⟨rfl, hb⟩; refine ⟨_, rfl, ?_⟩; replace BK260 := as_ (blk_below (g := gb260) (o := .cells #[.int .i64 t254, .int .i64 t255, .int .u64 t256, .string t257] 24 (0, 0)) (by refine bx ?_; refine blk_put (cs := #[.int .i64 t254, .int .i64 t255, .int .u64 t256, .string (⟨#[]⟩ : ByteArray)]) ?_ 3 _ rfl; refine bx ?_; refine blk_put (cs := #[.int .i64 t254, .int .i64 t255, .int .u64 0, .string (⟨#[]⟩ : ByteArray)]) ?_ 2 _ rfl; refine bx ?_; refine blk_put (cs := #[.int .i64 t254, .int .i64 0, .int .u64 0, .string (⟨#[]⟩ : ByteArray)]) ?_ 1 _ rfl; refine bx ?_; refine blk_put (cs := #[.int .i64 0, .int .i64 0, .int .u64 0, .string (⟨#[]⟩ : ByteArray)]) ?_ 0 _ rfl; refine bx ?_; exact BK260.out) hb); replace HB := as_ (below_step bA hb); (try clear hb); (try clear hb2); (try clear hk); (try clear hi)) | ((with_reducible refine gate_dst (N := 14) rfl ?_); refine box_event ?hg (N := 14) ?hd (cs := #[.int .i64 0, .int .i64 0, .int .u64 0, .string (⟨#[]⟩ : ByteArray)]) (t := 24) ?hr ?_; (case hd => rfl); (case hg => rfl); (case hr => first | (go_simp; done) | (go_simp; rfl)); intro gb267 hg w46 hbox hb; have BK267 := as_ (hbox); have GW267 := gw hg bA; have GE267 := gw hg bA; have NB260_267 := nl BK260 hg; have NB267_260 := ng BK260 hg; replace BK260 := bb BK260 hb; replace HB := as_ (below_step bA hb); clear hb hbox hg; have hnb47 := NB267_260.out; have hnc47 := NB260_267.out; obtain ⟨hcz48_0, hcz48_1, hcz48_2, hcz48_3⟩ := zc4 BK267; obtain ⟨hfz48_0, hfz48_1, hfz48_2, hfz48_3⟩ := zf4 BK267) | ((with_reducible refine gate_callee (f := 13) rfl ?_); refine goesL_ (some 65) rfl rfl Tryd.func13 (by kernel_rfl) rfl #[.string (⟨#[80, 0, 2]⟩ : ByteArray), .int .i64 0] rfl aO ?_; (with_reducible refine (col_Get.calls k (⟨#[80, 0, 2]⟩ : ByteArray) 0 t268 t269 t270 t271 t272 t273 _ A8.out).mono ?_); rintro e w49 ⟨rfl, hb⟩; refine ⟨_, rfl, ?_⟩; replace BK260 := as_ (blk_below (g := gb260) (o := .cells #[.int .i64 t254, .int .i64 t255, .int .u64 t256, .string t257] 24 (0, 0)) (by refine bx ?_; refine blk_far ?_ NB260_267.out _; refine bx ?_; refine blk_far ?_ NB260_267.out _; refine bx ?_; refine blk_far ?_ NB260_267.out _; refine bx ?_; refine blk_far ?_ NB260_267.out _; refine bx ?_; exact BK260.out) hb); replace BK267 := as_ (blk_below (g := gb267) (o := .cells #[.int .i64 t261, .int .i64 t262, .int .u64 t263, .string t264] 24 (0, 0)) (by refine bx ?_; refine blk_put (cs := #[.int .i64 t261, .int .i64 t262, .int .u64 t263, .string (⟨#[]⟩ : ByteArray)]) ?_ 3 _ rfl; refine bx ?_; refine blk_put (cs := #[.int .i64 t261, .int .i64 t262, .int .u64 0, .string (⟨#[]⟩ : ByteArray)]) ?_ 2 _ rfl; refine bx ?_; refine blk_put (cs := #[.int .i64 t261, .int .i64 0, .int .u64 0, .string (⟨#[]⟩ : ByteArray)]) ?_ 1 _ rfl; refine bx ?_; refine blk_put (cs := #[.int .i64 0, .int .i64 0, .int .u64 0, .string (⟨#[]⟩ : ByteArray)]) ?_ 0 _ rfl; refine bx ?_; exact BK267.out) hb); replace HB := as_ (below_step bA hb); (try clear hb); (try clear hb2); (try clear hk); (try clear hi)) | ((with_reducible refine gate_dst (N := 17) rfl ?_); refine box_event ?hg (N := 17) ?hd (cs := #[.int .i64 0, .int .i64 0, .int .u64 0, .string (⟨#[]⟩ : ByteArray)]) (t := 24) ?hr ?_; (case hd => rfl); (case hg => rfl); (case hr => first | (go_simp; done) | (go_simp; rfl)); intro gb274 hg w50 hbox hb; have BK274 := as_ (hbox); have GW274 := gw hg bA; have GE274 := gw hg bA; have NB260_274 := nl BK260 hg; have NB274_260 := ng BK260 hg; have NB267_274 := nl BK267 hg; have NB274_267 := ng BK267 hg; replace BK260 := bb BK260 hb; replace BK267 := bb BK267 hb; replace HB := as_ (below_step bA hb); clear hb hbox hg; have hnb51 := NB274_260.out; have hnc51 := NB260_274.out; have hnb52 := NB274_267.out; have hnc52 := NB267_274.out; obtain ⟨hcz53_0, hcz53_1, hcz53_2, hcz53_3⟩ := zc4 BK274; obtain ⟨hfz53_0, hfz53_1, hfz53_2, hfz53_3⟩ := zf4 BK274) | ((with_reducible refine gate_callee (f := 13) rfl ?_); refine goesL_ (some 70) rfl rfl Tryd.func13 (by kernel_rfl) rfl #[.string (⟨#[17]⟩ : ByteArray), .int .i64 0] rfl aO ?_; (with_reducible refine (col_Get.calls k (⟨#[17]⟩ : ByteArray) 0 t275 t276 t277 t278 t279 t280 _ A9.out).mono ?_); rintro e w54 ⟨rfl, hb⟩; refine ⟨_, rfl, ?_⟩; replace BK260 := as_ (blk_below (g := gb260) (o := .cells #[.int .i64 t254, .int .i64 t255, .int .u64 t256, .string t257] 24 (0, 0)) (by refine bx ?_; refine blk_far ?_ NB260_274.out _; refine bx ?_; refine blk_far ?_ NB260_274.out _; refine bx ?_; refine blk_far ?_ NB260_274.out _; refine bx ?_; refine blk_far ?_ NB260_274.out _; refine bx ?_; exact BK260.out) hb); replace BK267 := as_ (blk_below (g := gb267) (o := .cells #[.int .i64 t261, .int .i64 t262, .int .u64 t263, .string t264] 24 (0, 0)) (by refine bx ?_; refine blk_far ?_ NB267_274.out _; refine bx ?_; refine blk_far ?_ NB267_274.out _; refine bx ?_; refine blk_far ?_ NB267_274.out _; refine bx ?_; refine blk_far ?_ NB267_274.out _; refine bx ?_; exact BK267.out) hb); replace BK274 := as_ (blk_below (g := gb274) (o := .cells #[.int .i64 t268, .int .i64 t269, .int .u64 t270, .string t271] 24 (0, 0)) (by refine bx ?_; refine blk_put (cs := #[.int .i64 t268, .int .i64 t269, .int .u64 t270, .string (⟨#[]⟩ : ByteArray)]) ?_ 3 _ rfl; refine bx ?_; refine blk_put (cs := #[.int .i64 t268, .int .i64 t269, .int .u64 0, .string (⟨#[]⟩ : ByteArray)]) ?_ 2 _ rfl; refine bx ?_; refine blk_put (cs := #[.int .i64 t268, .int .i64 0, .int .u64 0, .string (⟨#[]⟩ : ByteArray)]) ?_ 1 _ rfl; refine bx ?_; refine blk_put (cs := #[.int .i64 0, .int .i64 0, .int .u64 0, .string (⟨#[]⟩ : ByteArray)]) ?_ 0 _ rfl; refine bx ?_; exact BK274.out) hb); replace HB := as_ (below_step bA hb); (try clear hb); (try clear hb2); (try clear hk); (try clear hi)) | ((with_reducible refine gate_dst (N := 20) rfl ?_); refine box_event ?hg (N := 20) ?hd (cs := #[.int .i64 0, .int .i64 0, .int .u64 0, .string (⟨#[]⟩ : ByteArray)]) (t := 24) ?hr ?_; (case hd => rfl); (case hg => rfl); (case hr => first | (go_simp; done) | (go_simp; rfl)); intro gb281 hg w55 hbox hb; have BK281 := as_ (hbox); have GW281 := gw hg bA; have GE281 := gw hg bA; have NB260_281 := nl BK260 hg; have NB281_260 := ng BK260 hg; have NB267_281 := nl BK267 hg; have NB281_267 := ng BK267 hg; have NB274_281 := nl BK274 hg; have NB281_274 := ng BK274 hg; replace BK260 := bb BK260 hb; replace BK267 := bb BK267 hb; replace BK274 := bb BK274 hb; replace HB := as_ (below_step bA hb); clear hb hbox hg; have hnb56 := NB281_260.out; have hnc56 := NB260_281.out; have hnb57 := NB281_267.out; have hnc57 := NB267_281.out; have hnb58 := NB281_274.out; have hnc58 := NB274_281.out; obtain ⟨hcz59_0, hcz59_1, hcz59_2, hcz59_3⟩ := zc4 BK281; obtain ⟨hfz59_0, hfz59_1, hfz59_2, hfz59_3⟩ := zf4 BK281) | ((with_reducible refine gate_callee (f := 13) rfl ?_); refine goesL_ (some 75) rfl rfl Tryd.func13 (by kernel_rfl) rfl #[.string (⟨#[64, 241, 0]⟩ : ByteArray), .int .i64 0] rfl aO ?_; (with_reducible refine (col_Get.calls k (⟨#[64, 241, 0]⟩ : ByteArray) 0 t282 t283 t284 t285 t286 t287 _ A10.out).mono ?_); rintro e w60 ⟨rfl, hb⟩; refine ⟨_, rfl, ?_⟩; replace BK260 := as_ (blk_below (g := gb260) (o := .cells #[.int .i64 t254, .int .i64 t255, .int .u64 t256, .string t257] 24 (0, 0)) (by refine bx ?_; refine blk_far ?_ NB260_281.out _; refine bx ?_; refine blk_far ?_ NB260_281.out _; refine bx ?_; refine blk_far ?_ NB260_281.out _; refine bx ?_; refine blk_far ?_ NB260_281.out _; refine bx ?_; exact BK260.out) hb); replace BK267 := as_ (blk_below (g := gb267) (o := .cells #[.int .i64 t261, .int .i64 t262, .int .u64 t263, .string t264] 24 (0, 0)) (by refine bx ?_; refine blk_far ?_ NB267_281.out _; refine bx ?_; refine blk_far ?_ NB267_281.out _; refine bx ?_; refine blk_far ?_ NB267_281.out _; refine bx ?_; refine blk_far ?_ NB267_281.out _; refine bx ?_; exact BK267.out) hb); replace BK274 := as_ (blk_below (g := gb274) (o := .cells #[.int .i64 t268, .int .i64 t269, .int .u64 t270, .string t271] 24 (0, 0)) (by refine bx ?_; refine blk_far ?_ NB274_281.out _; refine bx ?_; refine blk_far ?_ NB274_281.out _; refine bx ?_; refine blk_far ?_ NB274_281.out _; refine bx ?_; refine blk_far ?_ NB274_281.out _; refine bx ?_; exact BK274.out) hb); replace BK281 := as_ (blk_below (g := gb281) (o := .cells #[.int .i64 t275, .int .i64 t276, .int .u64 t277, .string t278] 24 (0, 0)) (by refine bx ?_; refine blk_put (cs := #[.int .i64 t275, .int .i64 t276, .int .u64 t277, .string (⟨#[]⟩ : ByteArray)]) ?_ 3 _ rfl; refine bx ?_; refine blk_put (cs := #[.int .i64 t275, .int .i64 t276, .int .u64 0, .string (⟨#[]⟩ : ByteArray)]) ?_ 2 _ rfl; refine bx ?_; refine blk_put (cs := #[.int .i64 t275, .int .i64 0, .int .u64 0, .string (⟨#[]⟩ : ByteArray)]) ?_ 1 _ rfl; refine bx ?_; refine blk_put (cs := #[.int .i64 0, .int .i64 0, .int .u64 0, .string (⟨#[]⟩ : ByteArray)]) ?_ 0 _ rfl; refine bx ?_; exact BK281.out) hb); replace HB := as_ (below_step bA hb); (try clear hb); (try clear hb2); (try clear hk); (try clear hi)) | ((with_reducible refine gate_dst (N := 23) rfl ?_); refine box_event ?hg (N := 23) ?hd (cs := #[.int .i64 0, .int .i64 0, .int .u64 0, .string (⟨#[]⟩ : ByteArray)]) (t := 24) ?hr ?_; (case hd => rfl); (case hg => rfl); (case hr => first | (go_simp; done) | (go_simp; rfl)); intro gb288 hg w61 hbox hb; have BK288 := as_ (hbox); have GW288 := gw hg bA; have GE288 := gw hg bA; have NB260_288 := nl BK260 hg; have NB288_260 := ng BK260 hg; have NB267_288 := nl BK267 hg; have NB288_267 := ng BK267 hg; have NB274_288 := nl BK274 hg; have NB288_274 := ng BK274 hg; have NB281_288 := nl BK281 hg; have NB288_281 := ng BK281 hg; replace BK260 := bb BK260 hb; replace BK267 := bb BK267 hb; replace BK274 := bb BK274 hb; replace BK281 := bb BK281 hb; replace HB := as_ (below_step bA hb); clear hb hbox hg; have hnb62 := NB288_260.out; have hnc62 := NB260_288.out; have hnb63 := NB288_267.out; have hnc63 := NB267_288.out; have hnb64 := NB288_274.out; have hnc64 := NB274_288.out; have hnb65 := NB288_281.out; have hnc65 := NB281_288.out; obtain ⟨hcz66_0, hcz66_1, hcz66_2, hcz66_3⟩ := zc4 BK288; obtain ⟨hfz66_0, hfz66_1, hfz66_2, hfz66_3⟩ := zf4 BK288) | ((with_reducible refine gate_callee (f := 13) rfl ?_); refine goesL_ (some 80) rfl rfl Tryd.func13 (by kernel_rfl) rfl #[.string (⟨#[97]⟩ : ByteArray), .int .i64 2] rfl aO ?_; (with_reducible refine (col_Get.calls k (⟨#[97]⟩ : ByteArray) 2 t289 t290 t291 t292 t293 t294 _ A11.out).mono ?_); rintro e w67 ⟨rfl, hb⟩; refine ⟨_, rfl, ?_⟩; replace BK260 := as_ (blk_below (g := gb260) (o := .cells #[.int .i64 t254, .int .i64 t255, .int .u64 t256, .string t257] 24 (0, 0)) (by refine bx ?_; refine blk_far ?_ NB260_288.out _; refine bx ?_; refine blk_far ?_ NB260_288.out _; refine bx ?_; refine blk_far ?_ NB260_288.out _; refine bx ?_; refine blk_far ?_ NB260_288.out _; refine bx ?_; exact BK260.out) hb); replace BK267 := as_ (blk_below (g := gb267) (o := .cells #[.int .i64 t261, .int .i64 t262, .int .u64 t263, .string t264] 24 (0, 0)) (by refine bx ?_; refine blk_far ?_ NB267_288.out _; refine bx ?_; refine blk_far ?_ NB267_288.out _; refine bx ?_; refine blk_far ?_ NB267_288.out _; refine bx ?_; refine blk_far ?_ NB267_288.out _; refine bx ?_; exact BK267.out) hb); replace BK274 := as_ (blk_below (g := gb274) (o := .cells #[.int .i64 t268, .int .i64 t269, .int .u64 t270, .string t271] 24 (0, 0)) (by refine bx ?_; refine blk_far ?_ NB274_288.out _; refine bx ?_; refine blk_far ?_ NB274_288.out _; refine bx ?_; refine blk_far ?_ NB274_288.out _; refine bx ?_; refine blk_far ?_ NB274_288.out _; refine bx ?_; exact BK274.out) hb); replace BK281 := as_ (blk_below (g := gb281) (o := .cells #[.int .i64 t275, .int .i64 t276, .int .u64 t277, .string t278] 24 (0, 0)) (by refine bx ?_; refine blk_far ?_ NB281_288.out _; refine bx ?_; refine blk_far ?_ NB281_288.out _; refine bx ?_; refine blk_far ?_ NB281_288.out _; refine bx ?_; refine blk_far ?_ NB281_288.out _; refine bx ?_; exact BK281.out) hb); replace BK288 := as_ (blk_below (g := gb288) (o := .cells #[.int .i64 t282, .int .i64 t283, .int .u64 t284, .string t285] 24 (0, 0)) (by refine bx ?_; refine blk_put (cs := #[.int .i64 t282, .int .i64 t283, .int .u64 t284, .string (⟨#[]⟩ : ByteArray)]) ?_ 3 _ rfl; refine bx ?_; refine blk_put (cs := #[.int .i64 t282, .int .i64 t283, .int .u64 0, .string (⟨#[]⟩ : ByteArray)]) ?_ 2 _ rfl; refine bx ?_; refine blk_put (cs := #[.int .i64 t282, .int .i64 0, .int .u64 0, .string (⟨#[]⟩ : ByteArray)]) ?_ 1 _ rfl; refine bx ?_; refine blk_put (cs := #[.int .i64 0, .int .i64 0, .int .u64 0, .string (⟨#[]⟩ : ByteArray)]) ?_ 0 _ rfl; refine bx ?_; exact BK288.out) hb); replace HB := as_ (below_step bA hb); (try clear hb); (try clear hb2); (try clear hk); (try clear hi)) | ((with_reducible refine gate_dst (N := 26) rfl ?_); refine box_event ?hg (N := 26) ?hd (cs := #[.int .i64 0, .int .i64 0, .int .u64 0, .string (⟨#[]⟩ : ByteArray)]) (t := 24) ?hr ?_; (case hd => rfl); (case hg => rfl); (case hr => first | (go_simp; done) | (go_simp; rfl)); intro gb295 hg w68 hbox hb; have BK295 := as_ (hbox); have GW295 := gw hg bA; have GE295 := gw hg bA; have NB260_295 := nl BK260 hg; have NB295_260 := ng BK260 hg; have NB267_295 := nl BK267 hg; have NB295_267 := ng BK267 hg; have NB274_295 := nl BK274 hg; have NB295_274 := ng BK274 hg; have NB281_295 := nl BK281 hg; have NB295_281 := ng BK281 hg; have NB288_295 := nl BK288 hg; have NB295_288 := ng BK288 hg; replace BK260 := bb BK260 hb; replace BK267 := bb BK267 hb; replace BK274 := bb BK274 hb; replace BK281 := bb BK281 hb; replace BK288 := bb BK288 hb; replace HB := as_ (below_step bA hb); clear hb hbox hg; have hnb69 := NB295_260.out; have hnc69 := NB260_295.out; have hnb70 := NB295_267.out; have hnc70 := NB267_295.out; have hnb71 := NB295_274.out; have hnc71 := NB274_295.out; have hnb72 := NB295_281.out; have hnc72 := NB281_295.out; have hnb73 := NB295_288.out; have hnc73 := NB288_295.out; obtain ⟨hcz74_0, hcz74_1, hcz74_2, hcz74_3⟩ := zc4 BK295; obtain ⟨hfz74_0, hfz74_1, hfz74_2, hfz74_3⟩ := zf4 BK295; obtain ⟨hcz75_0, hcz75_1, hcz75_2, hcz75_3⟩ := zc4 BK260; obtain ⟨hfz75_0, hfz75_1, hfz75_2, hfz75_3⟩ := zf4 BK260) | (go_at_call 17; (with_reducible refine (col_Compare.calls k 2 (-1) 0 (⟨#[]⟩ : ByteArray) 2 0 0 (⟨#[]⟩ : ByteArray) t296 _ A29.out).mono ?_); rintro e w76 ⟨rfl, hb⟩; replace BK260 := as_ (blk_below (g := gb260) (o := .cells #[.int .i64 t254, .int .i64 t255, .int .u64 t256, .string t257] 24 (0, 0)) (by refine bx ?_; refine blk_far ?_ NB260_295.out _; refine bx ?_; refine blk_far ?_ NB260_295.out _; refine bx ?_; refine blk_far ?_ NB260_295.out _; refine bx ?_; refine blk_far ?_ NB260_295.out _; refine bx ?_; exact BK260.out) hb); replace BK267 := as_ (blk_below (g := gb267) (o := .cells #[.int .i64 t261, .int .i64 t262, .int .u64 t263, .string t264] 24 (0, 0)) (by refine bx ?_; refine blk_far ?_ NB267_295.out _; refine bx ?_; refine blk_far ?_ NB267_295.out _; refine bx ?_; refine blk_far ?_ NB267_295.out _; refine bx ?_; refine blk_far ?_ NB267_295.out _; refine bx ?_; exact BK267.out) hb); replace BK274 := as_ (blk_below (g := gb274) (o := .cells #[.int .i64 t268, .int .i64 t269, .int .u64 t270, .string t271] 24 (0, 0)) (by refine bx ?_; refine blk_far ?_ NB274_295.out _; refine bx ?_; refine blk_far ?_ NB274_295.out _; refine bx ?_; refine blk_far ?_ NB274_295.out _; refine bx ?_; refine blk_far ?_ NB274_295.out _; refine bx ?_; exact BK274.out) hb); replace BK281 := as_ (blk_below (g := gb281) (o := .cells #[.int .i64 t275, .int .i64 t276, .int .u64 t277, .string t278] 24 (0, 0)) (by refine bx ?_; refine blk_far ?_ NB281_295.out _; refine bx ?_; refine blk_far ?_ NB281_295.out _; refine bx ?_; refine blk_far ?_ NB281_295.out _; refine bx ?_; refine blk_far ?_ NB281_295.out _; refine bx ?_; exact BK281.out) hb); replace BK288 := as_ (blk_below (g := gb288) (o := .cells #[.int .i64 t282, .int .i64 t283, .int .u64 t284, .string t285] 24 (0, 0)) (by refine bx ?_; refine blk_far ?_ NB288_295.out _; refine bx ?_; refine blk_far ?_ NB288_295.out _; refine bx ?_; refine blk_far ?_ NB288_295.out _; refine bx ?_; refine blk_far ?_ NB288_295.out _; refine bx ?_; exact BK288.out) hb); replace BK295 := as_ (blk_below (g := gb295) (o := .cells #[.int .i64 t289, .int .i64 t290, .int .u64 t291, .string t292] 24 (0, 0)) (by refine bx ?_; refine blk_put (cs := #[.int .i64 t289, .int .i64 t290, .int .u64 t291, .string (⟨#[]⟩ : ByteArray)]) ?_ 3 _ rfl; refine bx ?_; refine blk_put (cs := #[.int .i64 t289, .int .i64 t290, .int .u64 0, .string (⟨#[]⟩ : ByteArray)]) ?_ 2 _ rfl; refine bx ?_; refine blk_put (cs := #[.int .i64 t289, .int .i64 0, .int .u64 0, .string (⟨#[]⟩ : ByteArray)]) ?_ 1 _ rfl; refine bx ?_; refine blk_put (cs := #[.int .i64 0, .int .i64 0, .int .u64 0, .string (⟨#[]⟩ : ByteArray)]) ?_ 0 _ rfl; refine bx ?_; exact BK295.out) hb); replace HB := as_ (below_step bA hb); (try clear hb); (try clear hb2); (try clear hk); (try clear hi)) | (go_at_call 17; (with_reducible refine (col_Compare.calls k 4 0 0 (⟨#[]⟩ : ByteArray) 3 0 9 (⟨#[]⟩ : ByteArray) t297 _ A31.out).mono ?_); rintro e w77 ⟨rfl, hb⟩; replace BK260 := bb BK260 hb; replace BK267 := bb BK267 hb; replace BK274 := bb BK274 hb; replace BK281 := bb BK281 hb; replace BK288 := bb BK288 hb; replace BK295 := bb BK295 hb; replace HB := as_ (below_step bA hb); (try clear hb); (try clear hb2); (try clear hk); (try clear hi)) | (go_at_call 15; (with_reducible refine (col_Right.calls k 3 0 9 (⟨#[]⟩ : ByteArray) true _ A33.out).mono ?_); rintro e w78 ⟨rfl, hb⟩; replace BK260 := bb BK260 hb; replace BK267 := bb BK267 hb; replace BK274 := bb BK274 hb; replace BK281 := bb BK281 hb; replace BK288 := bb BK288 hb; replace BK295 := bb BK295 hb; replace HB := as_ (below_step bA hb); (try clear hb); (try clear hb2); (try clear hk); (try clear hi)) | (go_at_call 15; (with_reducible refine (col_Right.calls k 3 9 0 (⟨#[]⟩ : ByteArray) false _ A35.out).mono ?_); rintro e w79 ⟨rfl, hb⟩; replace BK260 := bb BK260 hb; replace BK267 := bb BK267 hb; replace BK274 := bb BK274 hb; replace BK281 := bb BK281 hb; replace BK288 := bb BK288 hb; replace BK295 := bb BK295 hb; replace HB := as_ (below_step bA hb); (try clear hb); (try clear hb2); (try clear hk); (try clear hi)))
 go_ret
 exact ⟨eW, by repeat (first | (with_reducible first | exact HB.out | apply below_alloc | apply pw_below_drewN | apply below_drew1 | refine below_set ?_ GE260.out | refine below_set ?_ GE267.out | refine below_set ?_ GE274.out | refine below_set ?_ GE281.out | refine below_set ?_ GE288.out | refine below_set ?_ GE295.out) | exact HB.out)⟩
end Go.Proofs.YtjfgeppfkhaliaaDoor.P
