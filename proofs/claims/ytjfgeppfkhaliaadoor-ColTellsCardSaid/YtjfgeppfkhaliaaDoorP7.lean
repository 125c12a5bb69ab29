/- What is proved here: for functions of the Go text, a Lean function each, and that the call comes to just what it answers. Conditions: as each contract names them. Written by wip/tools/myprint.py, a driver of the print of the kit. -/
import Derived.Test.YtjfgeppfkhaliaaDoorP0
import Derived.Test.YtjfgeppfkhaliaaDoorP2
import Derived.Test.YtjfgeppfkhaliaaDoorP3
import Derived.Test.YtjfgeppfkhaliaaDoorP4
import Derived.Test.YtjfgeppfkhaliaaDoorP5
import Derived.Test.YtjfgeppfkhaliaaDoorP6
import Derived.Test.YtjfgeppfkhaliaaDoorWAbbr
namespace Go.Proofs.YtjfgeppfkhaliaaDoor.P
open Go.RowKit Go.Proofs.YtjfgeppfkhaliaaDoorW.PrintWords Go.Proofs.YtjfgeppfkhaliaaDoorW.PrintLast Go.Proofs.YtjfgeppfkhaliaaDoorW.PrintMore Go.Proofs.YtjfgeppfkhaliaaDoorW.Abbr
-- PACKED
attribute [local go_sem] max2_int min2_int max_two min_two max_three min_three max_four min_four Go.Proofs.YtjfgeppfkhaliaaDoorLaws.str_leq Go.Proofs.YtjfgeppfkhaliaaDoorLaws.str_gtr Go.Proofs.YtjfgeppfkhaliaaDoorLaws.str_geq Go.Proofs.YtjfgeppfkhaliaaDoorLaws.max2_str Go.Proofs.YtjfgeppfkhaliaaDoorLaws.min2_str   -- for this text's walks alone
set_option linter.unusedVariables false
set_option linter.unusedSimpArgs false

attribute [local go_sem high] eqA32
/-! ### withylaw03_ColTells: function 3 -/
def withylaw03_ColTells.j0 : Nat → ByteArray → Int → ByteArray → Int → Int → Int → Int → Int → Bool → Int → Int → Int → ByteArray → Int → Int → Int → ByteArray → Option (Bool)
 | 0, _, _, _, _, _, _, _, _, _, _, _, _, _, _, _, _, _ => none
 | k + 1, x8, x9, x10, x11, x13, x14, x16, x17, x82, x326000, x326001, x326002, x326003, x333000, x333001, x333002, x333003 => if x82 = true then (none) else (if x8.toList = x10.toList then (if x9 = x11 then ((withylaw03_Ref.f x326000 x326001 x326002 x326003).bind fun bt359 => (if (bt359.1 == x333000 && (bt359.2.1 == x333001 && (bt359.2.2.1 == x333002 && (bt359.2.2.2.toList == x333003.toList)))) = true then (if x13 = x16 then (if x14 = x17 then ((withylaw03_fixed.f k).bind fun t363 => (some t363)) else (none)) else (none)) else (none))) else (none)) else (none))
def withylaw03_ColTells.f (k : Nat) (a0_0 : Int) (a0_1 : Int) (a0_2 : Int) (a0_3 : ByteArray) (a1_0 : Int) (a1_1 : Int) (a1_2 : Int) (a1_3 : ByteArray) (a2_0 : ByteArray) (a2_1 : Int) : Option (Bool) := (withylaw03_Cut.f a0_0 a0_1 a0_2 a0_3).bind fun bt303 => ((withylaw03_Cut.f a1_0 a1_1 a1_2 a1_3).bind fun bt307 => (if 0 ≤ (mn (a2_0.size : Int) 100) then (if (mn (a2_0.size : Int) 100) ≤ (a2_0.size : Int) then ((col_Put.f k bt303.1 bt303.2.1 bt303.2.2.1 bt303.2.2.2).bind fun bt311 => ((withylaw03_Ref.f bt303.1 bt303.2.1 bt303.2.2.1 bt303.2.2.2).bind fun bt313 => ((withyref03_Put.f k bt313.1 bt313.2.1 bt313.2.2.1 bt313.2.2.2).bind fun bt317 => ((col_Get.f k (a2_0.extract 0 ((mn (a2_0.size : Int) 100) : Int).toNat) a2_1).bind fun bt319 => ((withyref03_Get.f k (a2_0.extract 0 ((mn (a2_0.size : Int) 100) : Int).toNat) a2_1).bind fun bt326 => ((col_Right.f k bt303.1 bt303.2.1 bt303.2.2.1 bt303.2.2.2).bind fun t333 => ((withylaw03_Ref.f bt303.1 bt303.2.1 bt303.2.2.1 bt303.2.2.2).bind fun bt334 => ((withyref03_Right.f bt334.1 bt334.2.1 bt334.2.2.1 bt334.2.2.2).bind fun t338 => (if (t333 != t338) = true then (withylaw03_ColTells.j0 k bt311.1 bt311.2 bt317.1 bt317.2 bt319.2.2.2.2.1 bt319.2.2.2.2.2 bt326.2.2.2.2.1 bt326.2.2.2.2.2 true bt319.1 bt319.2.1 bt319.2.2.1 bt319.2.2.2.1 bt326.1 bt326.2.1 bt326.2.2.1 bt326.2.2.2.1) else ((withylaw03_Ref.f bt303.1 bt303.2.1 bt303.2.2.1 bt303.2.2.2).bind fun bt339 => ((withyref03_Right.f bt339.1 bt339.2.1 bt339.2.2.1 bt339.2.2.2).bind fun t343 => (if t343 = true then ((withylaw03_Ref.f bt307.1 bt307.2.1 bt307.2.2.1 bt307.2.2.2).bind fun bt344 => ((withyref03_Right.f bt344.1 bt344.2.1 bt344.2.2.1 bt344.2.2.2).bind fun t348 => (if t348 = true then ((col_Compare.f k bt303.1 bt303.2.1 bt303.2.2.1 bt303.2.2.2 bt307.1 bt307.2.1 bt307.2.2.1 bt307.2.2.2).bind fun t349 => ((withylaw03_Ref.f bt303.1 bt303.2.1 bt303.2.2.1 bt303.2.2.2).bind fun bt350 => ((withylaw03_Ref.f bt307.1 bt307.2.1 bt307.2.2.1 bt307.2.2.2).bind fun bt354 => ((withyref03_Compare.f bt350.1 bt350.2.1 bt350.2.2.1 bt350.2.2.2 bt354.1 bt354.2.1 bt354.2.2.1 bt354.2.2.2).bind fun t358 => (withylaw03_ColTells.j0 k bt311.1 bt311.2 bt317.1 bt317.2 bt319.2.2.2.2.1 bt319.2.2.2.2.2 bt326.2.2.2.2.1 bt326.2.2.2.2.2 (t349 != t358) bt319.1 bt319.2.1 bt319.2.2.1 bt319.2.2.2.1 bt326.1 bt326.2.1 bt326.2.2.1 bt326.2.2.2.1))))) else (withylaw03_ColTells.j0 k bt311.1 bt311.2 bt317.1 bt317.2 bt319.2.2.2.2.1 bt319.2.2.2.2.2 bt326.2.2.2.2.1 bt326.2.2.2.2.2 false bt319.1 bt319.2.1 bt319.2.2.1 bt319.2.2.2.1 bt326.1 bt326.2.1 bt326.2.2.1 bt326.2.2.2.1)))) else (withylaw03_ColTells.j0 k bt311.1 bt311.2 bt317.1 bt317.2 bt319.2.2.2.2.1 bt319.2.2.2.2.2 bt326.2.2.2.2.1 bt326.2.2.2.2.2 false bt319.1 bt319.2.1 bt319.2.2.1 bt319.2.2.2.1 bt326.1 bt326.2.1 bt326.2.2.1 bt326.2.2.2.1))))))))))))) else (none)) else (none)))
theorem withylaw03_ColTells.mono_l : ∀ k, (∀ y0 y1 y2 y3 y4 y5 y6 y7 y8 y9 y10 y11 y12 y13 y14 y15 y16, LeO (withylaw03_ColTells.j0 k y0 y1 y2 y3 y4 y5 y6 y7 y8 y9 y10 y11 y12 y13 y14 y15 y16) (withylaw03_ColTells.j0 (k + 1) y0 y1 y2 y3 y4 y5 y6 y7 y8 y9 y10 y11 y12 y13 y14 y15 y16))
 | 0 => fun _ _ _ _ _ _ _ _ _ _ _ _ _ _ _ _ _ r h => by simp [withylaw03_ColTells.j0] at h
 | k + 1 => by
  have ih0 := withylaw03_ColTells.mono_l k
  ·intro y0 y1 y2 y3 y4 y5 y6 y7 y8 y9 y10 y11 y12 y13 y14 y15 y16
   unfold withylaw03_ColTells.j0
   repeat' first
   | (with_reducible exact ih0 _ _ _ _ _ _ _ _ _ _ _ _ _ _ _ _ _)
   | (with_reducible exact col_Compare.mono _ _ _ _ _ _ _ _ _)
   | (with_reducible exact col_Get.mono _ _ _)
   | (with_reducible exact col_Put.mono _ _ _ _ _)
   | (with_reducible exact col_Right.mono _ _ _ _ _)
   | (with_reducible exact withylaw03_fixed.mono _)
   | (with_reducible exact withyref03_Get.mono _ _ _)
   | (with_reducible exact withyref03_Put.mono _ _ _ _ _)
   | (with_reducible exact LeO.refl _)
   | (with_reducible exact LeO.none _)
   | (with_reducible refine LeO.ite ?_ ?_)
   | (with_reducible refine LeO.bind ?_ (fun _ => ?_))
   | exact ih0 _ _ _ _ _ _ _ _ _ _ _ _ _ _ _ _ _
   | exact col_Compare.mono _ _ _ _ _ _ _ _ _
   | exact col_Get.mono _ _ _
   | exact col_Put.mono _ _ _ _ _
   | exact col_Right.mono _ _ _ _ _
   | exact withylaw03_fixed.mono _
   | exact withyref03_Get.mono _ _ _
   | exact withyref03_Put.mono _ _ _ _ _
   | exact LeO.none _
   | refine LeO.ite ?_ ?_
   | refine LeO.bind ?_ (fun _ => ?_)
theorem withylaw03_ColTells.mono : ∀ a0 a1 a2 a3 a4 a5 a6 a7 a8 a9 k, LeO (withylaw03_ColTells.f k a0 a1 a2 a3 a4 a5 a6 a7 a8 a9) (withylaw03_ColTells.f (k + 1) a0 a1 a2 a3 a4 a5 a6 a7 a8 a9) := by
 intro a0 a1 a2 a3 a4 a5 a6 a7 a8 a9 k
 have ih0 := withylaw03_ColTells.mono_l k
 unfold withylaw03_ColTells.f
 repeat' first
   | (with_reducible exact ih0 _ _ _ _ _ _ _ _ _ _ _ _ _ _ _ _ _)
   | (with_reducible exact col_Compare.mono _ _ _ _ _ _ _ _ _)
   | (with_reducible exact col_Get.mono _ _ _)
   | (with_reducible exact col_Put.mono _ _ _ _ _)
   | (with_reducible exact col_Right.mono _ _ _ _ _)
   | (with_reducible exact withylaw03_fixed.mono _)
   | (with_reducible exact withyref03_Get.mono _ _ _)
   | (with_reducible exact withyref03_Put.mono _ _ _ _ _)
   | (with_reducible exact LeO.refl _)
   | (with_reducible exact LeO.none _)
   | (with_reducible refine LeO.ite ?_ ?_)
   | (with_reducible refine LeO.bind ?_ (fun _ => ?_))
   | exact ih0 _ _ _ _ _ _ _ _ _ _ _ _ _ _ _ _ _
   | exact col_Compare.mono _ _ _ _ _ _ _ _ _
   | exact col_Get.mono _ _ _
   | exact col_Put.mono _ _ _ _ _
   | exact col_Right.mono _ _ _ _ _
   | exact withylaw03_fixed.mono _
   | exact withyref03_Get.mono _ _ _
   | exact withyref03_Put.mono _ _ _ _ _
   | exact LeO.none _
   | refine LeO.ite ?_ ?_
   | refine LeO.bind ?_ (fun _ => ?_)
def withylaw03_ColTells.T8 : Bool × List (List Nat × List Nat) := (true, [([], []), ([0], [0]), ([], []), ([2, 1], [2]), ([3, 3], [3]), ([1, 4], [1, 4]), ([5, 4], [5]), ([6], [6]), ([7, 6, 6], [6, 7]), ([8, 8, 6], [6, 8]), ([9, 9, 6], [6, 9]), ([10], [10]), ([11, 10, 10], [10, 11]), ([12, 12, 10], [10, 12]), ([10, 13, 6], [6, 10, 13]), ([14, 13, 6], [6, 14]), ([15], [15]), ([15], [15]), ([16, 17, 15, 15], [15, 16, 17]), ([15], [15]), ([19, 18, 15], [15, 19]), ([15], [15]), ([21, 20, 15], [15, 21]), ([20, 22, 22, 15], [15, 20, 22]), ([18, 23, 15], [15, 18, 23]), ([15, 24, 6], [6, 15, 24]), ([6, 25], [6, 25])])
def withylaw03_ColTells.B8 : List Nat := [0, 1, 0, 7, 15, 31, 63, 127, 255, 511, 1023, 2047, 4095, 8191, 16383, 32767, 65535, 65535, 262143, 65535, 1048575, 65535, 4194303, 8388607, 16777215, 33554431, 67108863]
theorem withylaw03_ColTells.tab8 : rtab .any (opsOf Tryd.f3 8) = withylaw03_ColTells.T8 := by kernel_rfl
theorem withylaw03_ColTells.bits8 : waitsOk withylaw03_ColTells.T8.2 withylaw03_ColTells.B8 = true := by kernel_rfl
def withylaw03_ColTells.T10 : Bool × List (List Nat × List Nat) := (true, [([], []), ([], []), ([0, 1], [0, 1]), ([2], [2]), ([3], [3]), ([3], [3]), ([4, 5, 3], [3, 4, 5]), ([3, 6], [3, 6]), ([7, 3], [7]), ([8], [8]), ([9, 8, 8], [8, 9]), ([8], [8]), ([10, 11, 8], [8, 10, 11]), ([8, 12], [8, 12]), ([13, 10], [13]), ([14], [14]), ([14], [14]), ([15, 16, 14], [14, 15, 16]), ([14, 17], [14, 17]), ([18, 14], [18]), ([19], [19]), ([19], [19]), ([20, 21, 19], [19, 20, 21]), ([19, 22], [19, 22]), ([23, 19], [23]), ([24, 24], [24]), ([24, 25], [24, 25]), ([26, 25, 0, 1, 2, 3, 4, 5, 6, 7, 8, 9, 10, 11, 12, 13, 14, 15, 16, 17, 18, 19, 20, 21, 22, 23, 24, 25, 26], [26])])
def withylaw03_ColTells.B10 : List Nat := [0, 0, 3, 7, 15, 15, 63, 127, 255, 511, 1023, 511, 4095, 8191, 16383, 32767, 32767, 131071, 262143, 524287, 1048575, 1048575, 4194303, 8388607, 16777215, 33554431, 67108863, 134217727]
theorem withylaw03_ColTells.tab10 : rtab .any (opsOf Tryd.f3 10) = withylaw03_ColTells.T10 := by kernel_rfl
theorem withylaw03_ColTells.bits10 : waitsOk withylaw03_ColTells.T10.2 withylaw03_ColTells.B10 = true := by kernel_rfl
set_option maxHeartbeats 8000000 in
set_option maxRecDepth 100000 in
theorem withylaw03_ColTells.calls (k : Nat) (a0_0 : Int) (a0_1 : Int) (a0_2 : Int) (a0_3 : ByteArray) (a1_0 : Int) (a1_1 : Int) (a1_2 : Int) (a1_3 : ByteArray) (a2_0 : ByteArray) (a2_1 : Int) (r : Bool) (w : World) (h : withylaw03_ColTells.f k a0_0 a0_1 a0_2 a0_3 a1_0 a1_1 a1_2 a1_3 a2_0 a2_1 = some r) :
  Calls Tryd.prog 3 #[.agg #[.int .i64 a0_0, .int .i64 a0_1, .int .u64 a0_2, .string a0_3], .agg #[.int .i64 a1_0, .int .i64 a1_1, .int .u64 a1_2, .string a1_3], .agg #[.string a2_0, .int .i64 a2_1]] w fun e w' => e = .returned (.bool r) ∧ Below w.heap.size w w' := by
 have hu24 := Tryd.underlying24
 have hu26 := Tryd.underlying26
 have hu32 := Tryd.underlying32
 have HB := as_ (Below.refl w.heap.size w)
 have H : ((withylaw03_Cut.f a0_0 a0_1 a0_2 a0_3).bind fun bt303 => ((withylaw03_Cut.f a1_0 a1_1 a1_2 a1_3).bind fun bt307 => (if 0 ≤ (mn (a2_0.size : Int) 100) then (if (mn (a2_0.size : Int) 100) ≤ (a2_0.size : Int) then ((col_Put.f k bt303.1 bt303.2.1 bt303.2.2.1 bt303.2.2.2).bind fun bt311 => ((withylaw03_Ref.f bt303.1 bt303.2.1 bt303.2.2.1 bt303.2.2.2).bind fun bt313 => ((withyref03_Put.f k bt313.1 bt313.2.1 bt313.2.2.1 bt313.2.2.2).bind fun bt317 => ((col_Get.f k (a2_0.extract 0 ((mn (a2_0.size : Int) 100) : Int).toNat) a2_1).bind fun bt319 => ((withyref03_Get.f k (a2_0.extract 0 ((mn (a2_0.size : Int) 100) : Int).toNat) a2_1).bind fun bt326 => ((col_Right.f k bt303.1 bt303.2.1 bt303.2.2.1 bt303.2.2.2).bind fun t333 => ((withylaw03_Ref.f bt303.1 bt303.2.1 bt303.2.2.1 bt303.2.2.2).bind fun bt334 => ((withyref03_Right.f bt334.1 bt334.2.1 bt334.2.2.1 bt334.2.2.2).bind fun t338 => (if (t333 != t338) = true then (withylaw03_ColTells.j0 k bt311.1 bt311.2 bt317.1 bt317.2 bt319.2.2.2.2.1 bt319.2.2.2.2.2 bt326.2.2.2.2.1 bt326.2.2.2.2.2 true bt319.1 bt319.2.1 bt319.2.2.1 bt319.2.2.2.1 bt326.1 bt326.2.1 bt326.2.2.1 bt326.2.2.2.1) else ((withylaw03_Ref.f bt303.1 bt303.2.1 bt303.2.2.1 bt303.2.2.2).bind fun bt339 => ((withyref03_Right.f bt339.1 bt339.2.1 bt339.2.2.1 bt339.2.2.2).bind fun t343 => (if t343 = true then ((withylaw03_Ref.f bt307.1 bt307.2.1 bt307.2.2.1 bt307.2.2.2).bind fun bt344 => ((withyref03_Right.f bt344.1 bt344.2.1 bt344.2.2.1 bt344.2.2.2).bind fun t348 => (if t348 = true then ((col_Compare.f k bt303.1 bt303.2.1 bt303.2.2.1 bt303.2.2.2 bt307.1 bt307.2.1 bt307.2.2.1 bt307.2.2.2).bind fun t349 => ((withylaw03_Ref.f bt303.1 bt303.2.1 bt303.2.2.1 bt303.2.2.2).bind fun bt350 => ((withylaw03_Ref.f bt307.1 bt307.2.1 bt307.2.2.1 bt307.2.2.2).bind fun bt354 => ((withyref03_Compare.f bt350.1 bt350.2.1 bt350.2.2.1 bt350.2.2.2 bt354.1 bt354.2.1 bt354.2.2.1 bt354.2.2.2).bind fun t358 => (withylaw03_ColTells.j0 k bt311.1 bt311.2 bt317.1 bt317.2 bt319.2.2.2.2.1 bt319.2.2.2.2.2 bt326.2.2.2.2.1 bt326.2.2.2.2.2 (t349 != t358) bt319.1 bt319.2.1 bt319.2.2.1 bt319.2.2.2.1 bt326.1 bt326.2.1 bt326.2.2.1 bt326.2.2.2.1))))) else (withylaw03_ColTells.j0 k bt311.1 bt311.2 bt317.1 bt317.2 bt319.2.2.2.2.1 bt319.2.2.2.2.2 bt326.2.2.2.2.1 bt326.2.2.2.2.2 false bt319.1 bt319.2.1 bt319.2.2.1 bt319.2.2.2.1 bt326.1 bt326.2.1 bt326.2.2.1 bt326.2.2.2.1)))) else (withylaw03_ColTells.j0 k bt311.1 bt311.2 bt317.1 bt317.2 bt319.2.2.2.2.1 bt319.2.2.2.2.2 bt326.2.2.2.2.1 bt326.2.2.2.2.2 false bt319.1 bt319.2.1 bt319.2.2.1 bt319.2.2.2.1 bt326.1 bt326.2.1 bt326.2.2.1 bt326.2.2.2.1))))))))))))) else (none)) else (none)))) = some r := h
 clear h
 replace H := bM H
 obtain ⟨⟨t303, t304, t305, t306⟩, A40, H⟩ := H
 replace H : ((withylaw03_Cut.f a1_0 a1_1 a1_2 a1_3).bind fun bt307 => (if 0 ≤ (mn (a2_0.size : Int) 100) then (if (mn (a2_0.size : Int) 100) ≤ (a2_0.size : Int) then ((col_Put.f k t303 t304 t305 t306).bind fun bt311 => ((withylaw03_Ref.f t303 t304 t305 t306).bind fun bt313 => ((withyref03_Put.f k bt313.1 bt313.2.1 bt313.2.2.1 bt313.2.2.2).bind fun bt317 => ((col_Get.f k (a2_0.extract 0 ((mn (a2_0.size : Int) 100) : Int).toNat) a2_1).bind fun bt319 => ((withyref03_Get.f k (a2_0.extract 0 ((mn (a2_0.size : Int) 100) : Int).toNat) a2_1).bind fun bt326 => ((col_Right.f k t303 t304 t305 t306).bind fun t333 => ((withylaw03_Ref.f t303 t304 t305 t306).bind fun bt334 => ((withyref03_Right.f bt334.1 bt334.2.1 bt334.2.2.1 bt334.2.2.2).bind fun t338 => (if (t333 != t338) = true then (withylaw03_ColTells.j0 k bt311.1 bt311.2 bt317.1 bt317.2 bt319.2.2.2.2.1 bt319.2.2.2.2.2 bt326.2.2.2.2.1 bt326.2.2.2.2.2 true bt319.1 bt319.2.1 bt319.2.2.1 bt319.2.2.2.1 bt326.1 bt326.2.1 bt326.2.2.1 bt326.2.2.2.1) else ((withylaw03_Ref.f t303 t304 t305 t306).bind fun bt339 => ((withyref03_Right.f bt339.1 bt339.2.1 bt339.2.2.1 bt339.2.2.2).bind fun t343 => (if t343 = true then ((withylaw03_Ref.f bt307.1 bt307.2.1 bt307.2.2.1 bt307.2.2.2).bind fun bt344 => ((withyref03_Right.f bt344.1 bt344.2.1 bt344.2.2.1 bt344.2.2.2).bind fun t348 => (if t348 = true then ((col_Compare.f k t303 t304 t305 t306 bt307.1 bt307.2.1 bt307.2.2.1 bt307.2.2.2).bind fun t349 => ((withylaw03_Ref.f t303 t304 t305 t306).bind fun bt350 => ((withylaw03_Ref.f bt307.1 bt307.2.1 bt307.2.2.1 bt307.2.2.2).bind fun bt354 => ((withyref03_Compare.f bt350.1 bt350.2.1 bt350.2.2.1 bt350.2.2.2 bt354.1 bt354.2.1 bt354.2.2.1 bt354.2.2.2).bind fun t358 => (withylaw03_ColTells.j0 k bt311.1 bt311.2 bt317.1 bt317.2 bt319.2.2.2.2.1 bt319.2.2.2.2.2 bt326.2.2.2.2.1 bt326.2.2.2.2.2 (t349 != t358) bt319.1 bt319.2.1 bt319.2.2.1 bt319.2.2.2.1 bt326.1 bt326.2.1 bt326.2.2.1 bt326.2.2.2.1))))) else (withylaw03_ColTells.j0 k bt311.1 bt311.2 bt317.1 bt317.2 bt319.2.2.2.2.1 bt319.2.2.2.2.2 bt326.2.2.2.2.1 bt326.2.2.2.2.2 false bt319.1 bt319.2.1 bt319.2.2.1 bt319.2.2.2.1 bt326.1 bt326.2.1 bt326.2.2.1 bt326.2.2.2.1)))) else (withylaw03_ColTells.j0 k bt311.1 bt311.2 bt317.1 bt317.2 bt319.2.2.2.2.1 bt319.2.2.2.2.2 bt326.2.2.2.2.1 bt326.2.2.2.2.2 false bt319.1 bt319.2.1 bt319.2.2.1 bt319.2.2.2.1 bt326.1 bt326.2.1 bt326.2.2.1 bt326.2.2.2.1))))))))))))) else (none)) else (none))) = some r := H
 have A4 := Aside0.mk A40
 clear A40
 replace H := bM H
 obtain ⟨⟨t307, t308, t309, t310⟩, A50, H⟩ := H
 replace H : (if 0 ≤ (mn (a2_0.size : Int) 100) then (if (mn (a2_0.size : Int) 100) ≤ (a2_0.size : Int) then ((col_Put.f k t303 t304 t305 t306).bind fun bt311 => ((withylaw03_Ref.f t303 t304 t305 t306).bind fun bt313 => ((withyref03_Put.f k bt313.1 bt313.2.1 bt313.2.2.1 bt313.2.2.2).bind fun bt317 => ((col_Get.f k (a2_0.extract 0 ((mn (a2_0.size : Int) 100) : Int).toNat) a2_1).bind fun bt319 => ((withyref03_Get.f k (a2_0.extract 0 ((mn (a2_0.size : Int) 100) : Int).toNat) a2_1).bind fun bt326 => ((col_Right.f k t303 t304 t305 t306).bind fun t333 => ((withylaw03_Ref.f t303 t304 t305 t306).bind fun bt334 => ((withyref03_Right.f bt334.1 bt334.2.1 bt334.2.2.1 bt334.2.2.2).bind fun t338 => (if (t333 != t338) = true then (withylaw03_ColTells.j0 k bt311.1 bt311.2 bt317.1 bt317.2 bt319.2.2.2.2.1 bt319.2.2.2.2.2 bt326.2.2.2.2.1 bt326.2.2.2.2.2 true bt319.1 bt319.2.1 bt319.2.2.1 bt319.2.2.2.1 bt326.1 bt326.2.1 bt326.2.2.1 bt326.2.2.2.1) else ((withylaw03_Ref.f t303 t304 t305 t306).bind fun bt339 => ((withyref03_Right.f bt339.1 bt339.2.1 bt339.2.2.1 bt339.2.2.2).bind fun t343 => (if t343 = true then ((withylaw03_Ref.f t307 t308 t309 t310).bind fun bt344 => ((withyref03_Right.f bt344.1 bt344.2.1 bt344.2.2.1 bt344.2.2.2).bind fun t348 => (if t348 = true then ((col_Compare.f k t303 t304 t305 t306 t307 t308 t309 t310).bind fun t349 => ((withylaw03_Ref.f t303 t304 t305 t306).bind fun bt350 => ((withylaw03_Ref.f t307 t308 t309 t310).bind fun bt354 => ((withyref03_Compare.f bt350.1 bt350.2.1 bt350.2.2.1 bt350.2.2.2 bt354.1 bt354.2.1 bt354.2.2.1 bt354.2.2.2).bind fun t358 => (withylaw03_ColTells.j0 k bt311.1 bt311.2 bt317.1 bt317.2 bt319.2.2.2.2.1 bt319.2.2.2.2.2 bt326.2.2.2.2.1 bt326.2.2.2.2.2 (t349 != t358) bt319.1 bt319.2.1 bt319.2.2.1 bt319.2.2.2.1 bt326.1 bt326.2.1 bt326.2.2.1 bt326.2.2.2.1))))) else (withylaw03_ColTells.j0 k bt311.1 bt311.2 bt317.1 bt317.2 bt319.2.2.2.2.1 bt319.2.2.2.2.2 bt326.2.2.2.2.1 bt326.2.2.2.2.2 false bt319.1 bt319.2.1 bt319.2.2.1 bt319.2.2.2.1 bt326.1 bt326.2.1 bt326.2.2.1 bt326.2.2.2.1)))) else (withylaw03_ColTells.j0 k bt311.1 bt311.2 bt317.1 bt317.2 bt319.2.2.2.2.1 bt319.2.2.2.2.2 bt326.2.2.2.2.1 bt326.2.2.2.2.2 false bt319.1 bt319.2.1 bt319.2.2.1 bt319.2.2.2.1 bt326.1 bt326.2.1 bt326.2.2.1 bt326.2.2.2.1))))))))))))) else (none)) else (none)) = some r := H
 have A5 := Aside0.mk A50
 clear A50
 obtain ⟨ji6, hji6⟩ : ∃ j_ : Int, (mn (a2_0.size : Int) 100) = j_ := ⟨_, rfl⟩
 replace H : (if 0 ≤ (ji6) then (if (ji6) ≤ (a2_0.size : Int) then ((col_Put.f k t303 t304 t305 t306).bind fun bt311 => ((withylaw03_Ref.f t303 t304 t305 t306).bind fun bt313 => ((withyref03_Put.f k bt313.1 bt313.2.1 bt313.2.2.1 bt313.2.2.2).bind fun bt317 => ((col_Get.f k (a2_0.extract 0 ((ji6) : Int).toNat) a2_1).bind fun bt319 => ((withyref03_Get.f k (a2_0.extract 0 ((ji6) : Int).toNat) a2_1).bind fun bt326 => ((col_Right.f k t303 t304 t305 t306).bind fun t333 => ((withylaw03_Ref.f t303 t304 t305 t306).bind fun bt334 => ((withyref03_Right.f bt334.1 bt334.2.1 bt334.2.2.1 bt334.2.2.2).bind fun t338 => (if (t333 != t338) = true then (withylaw03_ColTells.j0 k bt311.1 bt311.2 bt317.1 bt317.2 bt319.2.2.2.2.1 bt319.2.2.2.2.2 bt326.2.2.2.2.1 bt326.2.2.2.2.2 true bt319.1 bt319.2.1 bt319.2.2.1 bt319.2.2.2.1 bt326.1 bt326.2.1 bt326.2.2.1 bt326.2.2.2.1) else ((withylaw03_Ref.f t303 t304 t305 t306).bind fun bt339 => ((withyref03_Right.f bt339.1 bt339.2.1 bt339.2.2.1 bt339.2.2.2).bind fun t343 => (if t343 = true then ((withylaw03_Ref.f t307 t308 t309 t310).bind fun bt344 => ((withyref03_Right.f bt344.1 bt344.2.1 bt344.2.2.1 bt344.2.2.2).bind fun t348 => (if t348 = true then ((col_Compare.f k t303 t304 t305 t306 t307 t308 t309 t310).bind fun t349 => ((withylaw03_Ref.f t303 t304 t305 t306).bind fun bt350 => ((withylaw03_Ref.f t307 t308 t309 t310).bind fun bt354 => ((withyref03_Compare.f bt350.1 bt350.2.1 bt350.2.2.1 bt350.2.2.2 bt354.1 bt354.2.1 bt354.2.2.1 bt354.2.2.2).bind fun t358 => (withylaw03_ColTells.j0 k bt311.1 bt311.2 bt317.1 bt317.2 bt319.2.2.2.2.1 bt319.2.2.2.2.2 bt326.2.2.2.2.1 bt326.2.2.2.2.2 (t349 != t358) bt319.1 bt319.2.1 bt319.2.2.1 bt319.2.2.2.1 bt326.1 bt326.2.1 bt326.2.2.1 bt326.2.2.2.1))))) else (withylaw03_ColTells.j0 k bt311.1 bt311.2 bt317.1 bt317.2 bt319.2.2.2.2.1 bt319.2.2.2.2.2 bt326.2.2.2.2.1 bt326.2.2.2.2.2 false bt319.1 bt319.2.1 bt319.2.2.1 bt319.2.2.2.1 bt326.1 bt326.2.1 bt326.2.2.1 bt326.2.2.2.1)))) else (withylaw03_ColTells.j0 k bt311.1 bt311.2 bt317.1 bt317.2 bt319.2.2.2.2.1 bt319.2.2.2.2.2 bt326.2.2.2.2.1 bt326.2.2.2.2.2 false bt319.1 bt319.2.1 bt319.2.2.1 bt319.2.2.2.1 bt326.1 bt326.2.1 bt326.2.2.1 bt326.2.2.2.1))))))))))))) else (none)) else (none)) = some r := by first | (rw [hji6] at H; exact H) | (simp only [hji6] at H ⊢; exact H)
 (try rw [hji6] at A4)
 (try rw [hji6] at A5)
 (try (have hji6h : ji6 ≤ 100 := by (rw [← hji6]; unfold mn; (repeat' split) <;> omega)))
 (try (have hji6g : ji6 ≤ 64 := by omega))
 (try (have hji6l : 0 ≤ ji6 := by (rw [← hji6]; unfold mn; (repeat' split) <;> omega)))
 (try (have hji6m : 0 ≤ ji6 := by omega))
 have hji6_ : (if 100 < (a2_0.size : Int) then 100 else (a2_0.size : Int)) = ji6 := hji6
 by_cases c7 : 0 ≤ (ji6)
 rotate_left
 ·rw [if_neg c7] at H
  exact absurd H (by simp)
 
 rw [if_pos c7] at H
 have c7b0 := eq_true c7
 have c7b1 : decide (0 ≤ (ji6)) = true := decide_eq_true c7
 clear c7
 by_cases c8 : (ji6) ≤ (a2_0.size : Int)
 rotate_left
 ·rw [if_neg c8] at H
  exact absurd H (by simp)
 rw [if_pos c8] at H
 have c8b0 := eq_true c8
 have c8b1 : decide ((ji6) ≤ (a2_0.size : Int)) = true := decide_eq_true c8
 clear c8
 obtain ⟨js9, hjs9⟩ : ∃ j_ : ByteArray, (a2_0.extract 0 ((ji6) : Int).toNat) = j_ := ⟨_, rfl⟩
 replace H : ((col_Put.f k t303 t304 t305 t306).bind fun bt311 => ((withylaw03_Ref.f t303 t304 t305 t306).bind fun bt313 => ((withyref03_Put.f k bt313.1 bt313.2.1 bt313.2.2.1 bt313.2.2.2).bind fun bt317 => ((col_Get.f k (js9) a2_1).bind fun bt319 => ((withyref03_Get.f k (js9) a2_1).bind fun bt326 => ((col_Right.f k t303 t304 t305 t306).bind fun t333 => ((withylaw03_Ref.f t303 t304 t305 t306).bind fun bt334 => ((withyref03_Right.f bt334.1 bt334.2.1 bt334.2.2.1 bt334.2.2.2).bind fun t338 => (if (t333 != t338) = true then (withylaw03_ColTells.j0 k bt311.1 bt311.2 bt317.1 bt317.2 bt319.2.2.2.2.1 bt319.2.2.2.2.2 bt326.2.2.2.2.1 bt326.2.2.2.2.2 true bt319.1 bt319.2.1 bt319.2.2.1 bt319.2.2.2.1 bt326.1 bt326.2.1 bt326.2.2.1 bt326.2.2.2.1) else ((withylaw03_Ref.f t303 t304 t305 t306).bind fun bt339 => ((withyref03_Right.f bt339.1 bt339.2.1 bt339.2.2.1 bt339.2.2.2).bind fun t343 => (if t343 = true then ((withylaw03_Ref.f t307 t308 t309 t310).bind fun bt344 => ((withyref03_Right.f bt344.1 bt344.2.1 bt344.2.2.1 bt344.2.2.2).bind fun t348 => (if t348 = true then ((col_Compare.f k t303 t304 t305 t306 t307 t308 t309 t310).bind fun t349 => ((withylaw03_Ref.f t303 t304 t305 t306).bind fun bt350 => ((withylaw03_Ref.f t307 t308 t309 t310).bind fun bt354 => ((withyref03_Compare.f bt350.1 bt350.2.1 bt350.2.2.1 bt350.2.2.2 bt354.1 bt354.2.1 bt354.2.2.1 bt354.2.2.2).bind fun t358 => (withylaw03_ColTells.j0 k bt311.1 bt311.2 bt317.1 bt317.2 bt319.2.2.2.2.1 bt319.2.2.2.2.2 bt326.2.2.2.2.1 bt326.2.2.2.2.2 (t349 != t358) bt319.1 bt319.2.1 bt319.2.2.1 bt319.2.2.2.1 bt326.1 bt326.2.1 bt326.2.2.1 bt326.2.2.2.1))))) else (withylaw03_ColTells.j0 k bt311.1 bt311.2 bt317.1 bt317.2 bt319.2.2.2.2.1 bt319.2.2.2.2.2 bt326.2.2.2.2.1 bt326.2.2.2.2.2 false bt319.1 bt319.2.1 bt319.2.2.1 bt319.2.2.2.1 bt326.1 bt326.2.1 bt326.2.2.1 bt326.2.2.2.1)))) else (withylaw03_ColTells.j0 k bt311.1 bt311.2 bt317.1 bt317.2 bt319.2.2.2.2.1 bt319.2.2.2.2.2 bt326.2.2.2.2.1 bt326.2.2.2.2.2 false bt319.1 bt319.2.1 bt319.2.2.1 bt319.2.2.2.1 bt326.1 bt326.2.1 bt326.2.2.1 bt326.2.2.2.1))))))))))))) = some r := by first | (rw [hjs9] at H; exact H) | (simp only [hjs9] at H ⊢; exact H)
 (try rw [hjs9] at A4)
 (try rw [hjs9] at A5)
 replace H := bM H
 obtain ⟨⟨t311, t312⟩, A100, H⟩ := H
 replace H : ((withylaw03_Ref.f t303 t304 t305 t306).bind fun bt313 => ((withyref03_Put.f k bt313.1 bt313.2.1 bt313.2.2.1 bt313.2.2.2).bind fun bt317 => ((col_Get.f k (js9) a2_1).bind fun bt319 => ((withyref03_Get.f k (js9) a2_1).bind fun bt326 => ((col_Right.f k t303 t304 t305 t306).bind fun t333 => ((withylaw03_Ref.f t303 t304 t305 t306).bind fun bt334 => ((withyref03_Right.f bt334.1 bt334.2.1 bt334.2.2.1 bt334.2.2.2).bind fun t338 => (if (t333 != t338) = true then (withylaw03_ColTells.j0 k t311 t312 bt317.1 bt317.2 bt319.2.2.2.2.1 bt319.2.2.2.2.2 bt326.2.2.2.2.1 bt326.2.2.2.2.2 true bt319.1 bt319.2.1 bt319.2.2.1 bt319.2.2.2.1 bt326.1 bt326.2.1 bt326.2.2.1 bt326.2.2.2.1) else ((withylaw03_Ref.f t303 t304 t305 t306).bind fun bt339 => ((withyref03_Right.f bt339.1 bt339.2.1 bt339.2.2.1 bt339.2.2.2).bind fun t343 => (if t343 = true then ((withylaw03_Ref.f t307 t308 t309 t310).bind fun bt344 => ((withyref03_Right.f bt344.1 bt344.2.1 bt344.2.2.1 bt344.2.2.2).bind fun t348 => (if t348 = true then ((col_Compare.f k t303 t304 t305 t306 t307 t308 t309 t310).bind fun t349 => ((withylaw03_Ref.f t303 t304 t305 t306).bind fun bt350 => ((withylaw03_Ref.f t307 t308 t309 t310).bind fun bt354 => ((withyref03_Compare.f bt350.1 bt350.2.1 bt350.2.2.1 bt350.2.2.2 bt354.1 bt354.2.1 bt354.2.2.1 bt354.2.2.2).bind fun t358 => (withylaw03_ColTells.j0 k t311 t312 bt317.1 bt317.2 bt319.2.2.2.2.1 bt319.2.2.2.2.2 bt326.2.2.2.2.1 bt326.2.2.2.2.2 (t349 != t358) bt319.1 bt319.2.1 bt319.2.2.1 bt319.2.2.2.1 bt326.1 bt326.2.1 bt326.2.2.1 bt326.2.2.2.1))))) else (withylaw03_ColTells.j0 k t311 t312 bt317.1 bt317.2 bt319.2.2.2.2.1 bt319.2.2.2.2.2 bt326.2.2.2.2.1 bt326.2.2.2.2.2 false bt319.1 bt319.2.1 bt319.2.2.1 bt319.2.2.2.1 bt326.1 bt326.2.1 bt326.2.2.1 bt326.2.2.2.1)))) else (withylaw03_ColTells.j0 k t311 t312 bt317.1 bt317.2 bt319.2.2.2.2.1 bt319.2.2.2.2.2 bt326.2.2.2.2.1 bt326.2.2.2.2.2 false bt319.1 bt319.2.1 bt319.2.2.1 bt319.2.2.2.1 bt326.1 bt326.2.1 bt326.2.2.1 bt326.2.2.2.1)))))))))))) = some r := H
 have A10 := Aside0.mk A100
 clear A100
 replace H := bM H
 obtain ⟨⟨t313, t314, t315, t316⟩, A110, H⟩ := H
 replace H : ((withyref03_Put.f k t313 t314 t315 t316).bind fun bt317 => ((col_Get.f k (js9) a2_1).bind fun bt319 => ((withyref03_Get.f k (js9) a2_1).bind fun bt326 => ((col_Right.f k t303 t304 t305 t306).bind fun t333 => ((withylaw03_Ref.f t303 t304 t305 t306).bind fun bt334 => ((withyref03_Right.f bt334.1 bt334.2.1 bt334.2.2.1 bt334.2.2.2).bind fun t338 => (if (t333 != t338) = true then (withylaw03_ColTells.j0 k t311 t312 bt317.1 bt317.2 bt319.2.2.2.2.1 bt319.2.2.2.2.2 bt326.2.2.2.2.1 bt326.2.2.2.2.2 true bt319.1 bt319.2.1 bt319.2.2.1 bt319.2.2.2.1 bt326.1 bt326.2.1 bt326.2.2.1 bt326.2.2.2.1) else ((withylaw03_Ref.f t303 t304 t305 t306).bind fun bt339 => ((withyref03_Right.f bt339.1 bt339.2.1 bt339.2.2.1 bt339.2.2.2).bind fun t343 => (if t343 = true then ((withylaw03_Ref.f t307 t308 t309 t310).bind fun bt344 => ((withyref03_Right.f bt344.1 bt344.2.1 bt344.2.2.1 bt344.2.2.2).bind fun t348 => (if t348 = true then ((col_Compare.f k t303 t304 t305 t306 t307 t308 t309 t310).bind fun t349 => ((withylaw03_Ref.f t303 t304 t305 t306).bind fun bt350 => ((withylaw03_Ref.f t307 t308 t309 t310).bind fun bt354 => ((withyref03_Compare.f bt350.1 bt350.2.1 bt350.2.2.1 bt350.2.2.2 bt354.1 bt354.2.1 bt354.2.2.1 bt354.2.2.2).bind fun t358 => (withylaw03_ColTells.j0 k t311 t312 bt317.1 bt317.2 bt319.2.2.2.2.1 bt319.2.2.2.2.2 bt326.2.2.2.2.1 bt326.2.2.2.2.2 (t349 != t358) bt319.1 bt319.2.1 bt319.2.2.1 bt319.2.2.2.1 bt326.1 bt326.2.1 bt326.2.2.1 bt326.2.2.2.1))))) else (withylaw03_ColTells.j0 k t311 t312 bt317.1 bt317.2 bt319.2.2.2.2.1 bt319.2.2.2.2.2 bt326.2.2.2.2.1 bt326.2.2.2.2.2 false bt319.1 bt319.2.1 bt319.2.2.1 bt319.2.2.2.1 bt326.1 bt326.2.1 bt326.2.2.1 bt326.2.2.2.1)))) else (withylaw03_ColTells.j0 k t311 t312 bt317.1 bt317.2 bt319.2.2.2.2.1 bt319.2.2.2.2.2 bt326.2.2.2.2.1 bt326.2.2.2.2.2 false bt319.1 bt319.2.1 bt319.2.2.1 bt319.2.2.2.1 bt326.1 bt326.2.1 bt326.2.2.1 bt326.2.2.2.1))))))))))) = some r := H
 have A11 := Aside0.mk A110
 clear A110
 replace H := bM H
 obtain ⟨⟨t317, t318⟩, A120, H⟩ := H
 replace H : ((col_Get.f k (js9) a2_1).bind fun bt319 => ((withyref03_Get.f k (js9) a2_1).bind fun bt326 => ((col_Right.f k t303 t304 t305 t306).bind fun t333 => ((withylaw03_Ref.f t303 t304 t305 t306).bind fun bt334 => ((withyref03_Right.f bt334.1 bt334.2.1 bt334.2.2.1 bt334.2.2.2).bind fun t338 => (if (t333 != t338) = true then (withylaw03_ColTells.j0 k t311 t312 t317 t318 bt319.2.2.2.2.1 bt319.2.2.2.2.2 bt326.2.2.2.2.1 bt326.2.2.2.2.2 true bt319.1 bt319.2.1 bt319.2.2.1 bt319.2.2.2.1 bt326.1 bt326.2.1 bt326.2.2.1 bt326.2.2.2.1) else ((withylaw03_Ref.f t303 t304 t305 t306).bind fun bt339 => ((withyref03_Right.f bt339.1 bt339.2.1 bt339.2.2.1 bt339.2.2.2).bind fun t343 => (if t343 = true then ((withylaw03_Ref.f t307 t308 t309 t310).bind fun bt344 => ((withyref03_Right.f bt344.1 bt344.2.1 bt344.2.2.1 bt344.2.2.2).bind fun t348 => (if t348 = true then ((col_Compare.f k t303 t304 t305 t306 t307 t308 t309 t310).bind fun t349 => ((withylaw03_Ref.f t303 t304 t305 t306).bind fun bt350 => ((withylaw03_Ref.f t307 t308 t309 t310).bind fun bt354 => ((withyref03_Compare.f bt350.1 bt350.2.1 bt350.2.2.1 bt350.2.2.2 bt354.1 bt354.2.1 bt354.2.2.1 bt354.2.2.2).bind fun t358 => (withylaw03_ColTells.j0 k t311 t312 t317 t318 bt319.2.2.2.2.1 bt319.2.2.2.2.2 bt326.2.2.2.2.1 bt326.2.2.2.2.2 (t349 != t358) bt319.1 bt319.2.1 bt319.2.2.1 bt319.2.2.2.1 bt326.1 bt326.2.1 bt326.2.2.1 bt326.2.2.2.1))))) else (withylaw03_ColTells.j0 k t311 t312 t317 t318 bt319.2.2.2.2.1 bt319.2.2.2.2.2 bt326.2.2.2.2.1 bt326.2.2.2.2.2 false bt319.1 bt319.2.1 bt319.2.2.1 bt319.2.2.2.1 bt326.1 bt326.2.1 bt326.2.2.1 bt326.2.2.2.1)))) else (withylaw03_ColTells.j0 k t311 t312 t317 t318 bt319.2.2.2.2.1 bt319.2.2.2.2.2 bt326.2.2.2.2.1 bt326.2.2.2.2.2 false bt319.1 bt319.2.1 bt319.2.2.1 bt319.2.2.2.1 bt326.1 bt326.2.1 bt326.2.2.1 bt326.2.2.2.1)))))))))) = some r := H
 have A12 := Aside0.mk A120
 clear A120
 replace H := bM H
 obtain ⟨⟨t319, t320, t321, t322, t323, t324⟩, A130, H⟩ := H
 replace H : ((withyref03_Get.f k (js9) a2_1).bind fun bt326 => ((col_Right.f k t303 t304 t305 t306).bind fun t333 => ((withylaw03_Ref.f t303 t304 t305 t306).bind fun bt334 => ((withyref03_Right.f bt334.1 bt334.2.1 bt334.2.2.1 bt334.2.2.2).bind fun t338 => (if (t333 != t338) = true then (withylaw03_ColTells.j0 k t311 t312 t317 t318 t323 t324 bt326.2.2.2.2.1 bt326.2.2.2.2.2 true t319 t320 t321 t322 bt326.1 bt326.2.1 bt326.2.2.1 bt326.2.2.2.1) else ((withylaw03_Ref.f t303 t304 t305 t306).bind fun bt339 => ((withyref03_Right.f bt339.1 bt339.2.1 bt339.2.2.1 bt339.2.2.2).bind fun t343 => (if t343 = true then ((withylaw03_Ref.f t307 t308 t309 t310).bind fun bt344 => ((withyref03_Right.f bt344.1 bt344.2.1 bt344.2.2.1 bt344.2.2.2).bind fun t348 => (if t348 = true then ((col_Compare.f k t303 t304 t305 t306 t307 t308 t309 t310).bind fun t349 => ((withylaw03_Ref.f t303 t304 t305 t306).bind fun bt350 => ((withylaw03_Ref.f t307 t308 t309 t310).bind fun bt354 => ((withyref03_Compare.f bt350.1 bt350.2.1 bt350.2.2.1 bt350.2.2.2 bt354.1 bt354.2.1 bt354.2.2.1 bt354.2.2.2).bind fun t358 => (withylaw03_ColTells.j0 k t311 t312 t317 t318 t323 t324 bt326.2.2.2.2.1 bt326.2.2.2.2.2 (t349 != t358) t319 t320 t321 t322 bt326.1 bt326.2.1 bt326.2.2.1 bt326.2.2.2.1))))) else (withylaw03_ColTells.j0 k t311 t312 t317 t318 t323 t324 bt326.2.2.2.2.1 bt326.2.2.2.2.2 false t319 t320 t321 t322 bt326.1 bt326.2.1 bt326.2.2.1 bt326.2.2.2.1)))) else (withylaw03_ColTells.j0 k t311 t312 t317 t318 t323 t324 bt326.2.2.2.2.1 bt326.2.2.2.2.2 false t319 t320 t321 t322 bt326.1 bt326.2.1 bt326.2.2.1 bt326.2.2.2.1))))))))) = some r := H
 have A13 := Aside0.mk A130
 clear A130
 replace H := bM H
 obtain ⟨⟨t326, t327, t328, t329, t330, t331⟩, A140, H⟩ := H
 replace H : ((col_Right.f k t303 t304 t305 t306).bind fun t333 => ((withylaw03_Ref.f t303 t304 t305 t306).bind fun bt334 => ((withyref03_Right.f bt334.1 bt334.2.1 bt334.2.2.1 bt334.2.2.2).bind fun t338 => (if (t333 != t338) = true then (withylaw03_ColTells.j0 k t311 t312 t317 t318 t323 t324 t330 t331 true t319 t320 t321 t322 t326 t327 t328 t329) else ((withylaw03_Ref.f t303 t304 t305 t306).bind fun bt339 => ((withyref03_Right.f bt339.1 bt339.2.1 bt339.2.2.1 bt339.2.2.2).bind fun t343 => (if t343 = true then ((withylaw03_Ref.f t307 t308 t309 t310).bind fun bt344 => ((withyref03_Right.f bt344.1 bt344.2.1 bt344.2.2.1 bt344.2.2.2).bind fun t348 => (if t348 = true then ((col_Compare.f k t303 t304 t305 t306 t307 t308 t309 t310).bind fun t349 => ((withylaw03_Ref.f t303 t304 t305 t306).bind fun bt350 => ((withylaw03_Ref.f t307 t308 t309 t310).bind fun bt354 => ((withyref03_Compare.f bt350.1 bt350.2.1 bt350.2.2.1 bt350.2.2.2 bt354.1 bt354.2.1 bt354.2.2.1 bt354.2.2.2).bind fun t358 => (withylaw03_ColTells.j0 k t311 t312 t317 t318 t323 t324 t330 t331 (t349 != t358) t319 t320 t321 t322 t326 t327 t328 t329))))) else (withylaw03_ColTells.j0 k t311 t312 t317 t318 t323 t324 t330 t331 false t319 t320 t321 t322 t326 t327 t328 t329)))) else (withylaw03_ColTells.j0 k t311 t312 t317 t318 t323 t324 t330 t331 false t319 t320 t321 t322 t326 t327 t328 t329)))))))) = some r := H
 have A14 := Aside0.mk A140
 clear A140
 have HC15 := Aside0.mk H
 clear H
 go_enter Tryd.func3, Tryd.ntmps3
 go_upto_region 8 with (first | ((with_reducible refine gate_dst (N := 3) rfl ?_); refine box_event (by rfl) (N := 3) (by rfl) (cs := #[.int .i64 a0_0, .int .i64 a0_1, .int .u64 a0_2, .string a0_3]) (t := 24) gS ?_; intro gb300 hg w16 hbox hb; have BK300 := as_ (hbox); have GW300 := gw hg bA; have GE300 := gw hg bA; replace HB := as_ (below_step bA hb); clear hb hbox hg) | ((with_reducible refine gate_dst (N := 4) rfl ?_); refine box_event (by rfl) (N := 4) (by rfl) (cs := #[.int .i64 a1_0, .int .i64 a1_1, .int .u64 a1_2, .string a1_3]) (t := 24) gS ?_; intro gb301 hg w17 hbox hb; have BK301 := as_ (hbox); have GW301 := gw hg bA; have GE301 := gw hg bA; have NB300_301 := nl BK300 hg; have NB301_300 := ng BK300 hg; replace BK300 := bb BK300 hb; replace HB := as_ (below_step bA hb); clear hb hbox hg) | ((with_reducible refine gate_dst (N := 5) rfl ?_); refine box_event (by rfl) (N := 5) (by rfl) (cs := #[.string a2_0, .int .i64 a2_1]) (t := 26) gS ?_; intro gb302 hg w18 hbox hb; have BK302 := as_ (hbox); have GW302 := gw hg bA; have GE302 := gw hg bA; have NB300_302 := nl BK300 hg; have NB302_300 := ng BK300 hg; have NB301_302 := nl BK301 hg; have NB302_301 := ng BK301 hg; replace BK300 := bb BK300 hb; replace BK301 := bb BK301 hb; replace HB := as_ (below_step bA hb); clear hb hbox hg; have hnb19 := NB300_301.out; have hnc19 := NB301_300.out; have hnb20 := NB300_302.out; have hnc20 := NB302_300.out; obtain ⟨hcz21_0, hcz21_1, hcz21_2, hcz21_3⟩ := zc4 BK300; obtain ⟨hfz21_0, hfz21_1, hfz21_2, hfz21_3⟩ := zf4 BK300) | ((with_reducible refine gate_callee (f := 9) rfl ?_); refine goesL_ (some 19) rfl rfl Tryd.func9 (by kernel_rfl) rfl #[.agg #[.int .i64 a0_0, .int .i64 a0_1, .int .u64 a0_2, .string a0_3]] rfl aO ?_; (with_reducible refine (withylaw03_Cut.calls a0_0 a0_1 a0_2 a0_3 t303 t304 t305 t306 _ A4.out).mono ?_); rintro e w22 ⟨rfl, hb⟩; refine ⟨_, rfl, ?_⟩; replace BK300 := bb BK300 hb; replace BK301 := bb BK301 hb; replace BK302 := bb BK302 hb; replace HB := as_ (below_step bA hb); (try clear hb); (try clear hb2); (try clear hk); (try clear hi); obtain ⟨hcz23_0, hcz23_1, hcz23_2, hcz23_3⟩ := zc4 BK300; obtain ⟨hfz23_0, hfz23_1, hfz23_2, hfz23_3⟩ := zf4 BK300; have hnb24 := NB301_302.out; have hnc24 := NB302_301.out; obtain ⟨hcz25_0, hcz25_1, hcz25_2, hcz25_3⟩ := zc4 BK301; obtain ⟨hfz25_0, hfz25_1, hfz25_2, hfz25_3⟩ := zf4 BK301) | ((with_reducible refine gate_callee (f := 9) rfl ?_); refine goesL_ (some 21) rfl rfl Tryd.func9 (by kernel_rfl) rfl #[.agg #[.int .i64 a1_0, .int .i64 a1_1, .int .u64 a1_2, .string a1_3]] rfl aO ?_; (with_reducible refine (withylaw03_Cut.calls a1_0 a1_1 a1_2 a1_3 t307 t308 t309 t310 _ A5.out).mono ?_); rintro e w26 ⟨rfl, hb⟩; refine ⟨_, rfl, ?_⟩; replace BK300 := as_ (blk_below (g := gb300) (o := .cells #[.int .i64 t303, .int .i64 t304, .int .u64 t305, .string t306] 24 (0, 0)) (by refine bx ?_; refine blk_put (cs := #[.int .i64 t303, .int .i64 t304, .int .u64 t305, .string a0_3]) ?_ 3 _ rfl; refine bx ?_; refine blk_put (cs := #[.int .i64 t303, .int .i64 t304, .int .u64 a0_2, .string a0_3]) ?_ 2 _ rfl; refine bx ?_; refine blk_put (cs := #[.int .i64 t303, .int .i64 a0_1, .int .u64 a0_2, .string a0_3]) ?_ 1 _ rfl; refine bx ?_; refine blk_put (cs := #[.int .i64 a0_0, .int .i64 a0_1, .int .u64 a0_2, .string a0_3]) ?_ 0 _ rfl; refine bx ?_; exact BK300.out) hb); replace BK301 := as_ (blk_below (g := gb301) (o := .cells #[.int .i64 a1_0, .int .i64 a1_1, .int .u64 a1_2, .string a1_3] 24 (0, 0)) (by refine bx ?_; refine blk_far ?_ NB301_300.out _; refine bx ?_; refine blk_far ?_ NB301_300.out _; refine bx ?_; refine blk_far ?_ NB301_300.out _; refine bx ?_; refine blk_far ?_ NB301_300.out _; refine bx ?_; exact BK301.out) hb); replace BK302 := as_ (blk_below (g := gb302) (o := .cells #[.string a2_0, .int .i64 a2_1] 26 (0, 0)) (by refine bx ?_; refine blk_far ?_ NB302_300.out _; refine bx ?_; refine blk_far ?_ NB302_300.out _; refine bx ?_; refine blk_far ?_ NB302_300.out _; refine bx ?_; refine blk_far ?_ NB302_300.out _; refine bx ?_; exact BK302.out) hb); replace HB := as_ (below_step bA hb); (try clear hb); (try clear hb2); (try clear hk); (try clear hi); obtain ⟨hcz27_0, hcz27_1, hcz27_2, hcz27_3⟩ := zc4 BK301; obtain ⟨hfz27_0, hfz27_1, hfz27_2, hfz27_3⟩ := zf4 BK301; obtain ⟨hcz28_0, hcz28_1⟩ := zc2 BK302; obtain ⟨hfz28_0, hfz28_1⟩ := zf2 BK302; obtain ⟨hcz29_0, hcz29_1, hcz29_2, hcz29_3⟩ := zc4 BK300; obtain ⟨hfz29_0, hfz29_1, hfz29_2, hfz29_3⟩ := zf4 BK300) | ((with_reducible refine gate_callee (f := 10) rfl ?_); refine goesL_ (some 31) rfl rfl Tryd.func10 (by kernel_rfl) rfl #[.agg #[.int .i64 t303, .int .i64 t304, .int .u64 t305, .string t306]] rfl aO ?_; (with_reducible refine (col_Put.calls k t303 t304 t305 t306 t311 t312 _ A10.out).mono ?_); rintro e w30 ⟨rfl, hb⟩; refine ⟨_, rfl, ?_⟩; replace BK300 := as_ (blk_below (g := gb300) (o := .cells #[.int .i64 t303, .int .i64 t304, .int .u64 t305, .string t306] 24 (0, 0)) (by refine bx ?_; refine blk_far ?_ NB300_301.out _; refine bx ?_; refine blk_far ?_ NB300_301.out _; refine bx ?_; refine blk_far ?_ NB300_301.out _; refine bx ?_; refine blk_far ?_ NB300_301.out _; refine bx ?_; exact BK300.out) hb); replace BK301 := as_ (blk_below (g := gb301) (o := .cells #[.int .i64 t307, .int .i64 t308, .int .u64 t309, .string t310] 24 (0, 0)) (by refine bx ?_; refine blk_put (cs := #[.int .i64 t307, .int .i64 t308, .int .u64 t309, .string a1_3]) ?_ 3 _ rfl; refine bx ?_; refine blk_put (cs := #[.int .i64 t307, .int .i64 t308, .int .u64 a1_2, .string a1_3]) ?_ 2 _ rfl; refine bx ?_; refine blk_put (cs := #[.int .i64 t307, .int .i64 a1_1, .int .u64 a1_2, .string a1_3]) ?_ 1 _ rfl; refine bx ?_; refine blk_put (cs := #[.int .i64 a1_0, .int .i64 a1_1, .int .u64 a1_2, .string a1_3]) ?_ 0 _ rfl; refine bx ?_; exact BK301.out) hb); replace BK302 := as_ (blk_below (g := gb302) (o := .cells #[.string a2_0, .int .i64 a2_1] 26 (0, 0)) (by refine bx ?_; refine blk_far ?_ NB302_301.out _; refine bx ?_; refine blk_far ?_ NB302_301.out _; refine bx ?_; refine blk_far ?_ NB302_301.out _; refine bx ?_; refine blk_far ?_ NB302_301.out _; refine bx ?_; exact BK302.out) hb); replace HB := as_ (below_step bA hb); (try clear hb); (try clear hb2); (try clear hk); (try clear hi); obtain ⟨hcz31_0, hcz31_1, hcz31_2, hcz31_3⟩ := zc4 BK300; obtain ⟨hfz31_0, hfz31_1, hfz31_2, hfz31_3⟩ := zf4 BK300) | ((with_reducible refine gate_callee (f := 12) rfl ?_); refine goesL_ (some 36) rfl rfl Tryd.func12 (by kernel_rfl) rfl #[.agg #[.int .i64 t303, .int .i64 t304, .int .u64 t305, .string t306]] rfl aO ?_; (with_reducible refine (withylaw03_Ref.calls t303 t304 t305 t306 t313 t314 t315 t316 _ A11.out).mono ?_); rintro e w32 ⟨rfl, hb⟩; refine ⟨_, rfl, ?_⟩; replace BK300 := bb BK300 hb; replace BK301 := bb BK301 hb; replace BK302 := bb BK302 hb; replace HB := as_ (below_step bA hb); (try clear hb); (try clear hb2); (try clear hk); (try clear hi)) | ((with_reducible refine gate_callee (f := 11) rfl ?_); refine goesL_ (some 37) rfl rfl Tryd.func11 (by kernel_rfl) rfl #[.agg #[.int .i64 t313, .int .i64 t314, .int .u64 t315, .string t316]] rfl aO ?_; (with_reducible refine (withyref03_Put.calls k t313 t314 t315 t316 t317 t318 _ A12.out).mono ?_); rintro e w33 ⟨rfl, hb⟩; refine ⟨_, rfl, ?_⟩; replace BK300 := bb BK300 hb; replace BK301 := bb BK301 hb; replace BK302 := bb BK302 hb; replace HB := as_ (below_step bA hb); (try clear hb); (try clear hb2); (try clear hk); (try clear hi); obtain ⟨hcz34_0, hcz34_1⟩ := zc2 BK302; obtain ⟨hfz34_0, hfz34_1⟩ := zf2 BK302) | ((with_reducible refine gate_callee (f := 13) rfl ?_); refine goesL_ (some 44) rfl rfl Tryd.func13 (by kernel_rfl) rfl #[.string js9, .int .i64 a2_1] rfl aO ?_; (with_reducible refine (col_Get.calls k js9 a2_1 t319 t320 t321 t322 t323 t324 _ A13.out).mono ?_); rintro e w35 ⟨rfl, hb⟩; refine ⟨_, rfl, ?_⟩; replace BK300 := bb BK300 hb; replace BK301 := bb BK301 hb; replace BK302 := bb BK302 hb; replace HB := as_ (below_step bA hb); (try clear hb); (try clear hb2); (try clear hk); (try clear hi)) | ((with_reducible refine gate_dst (N := 12) rfl ?_); refine box_event ?hg (N := 12) ?hd (cs := #[.int .i64 0, .int .i64 0, .int .u64 0, .string (⟨#[]⟩ : ByteArray)]) (t := 24) ?hr ?_; (case hd => rfl); (case hg => rfl); (case hr => first | (go_simp; done) | (go_simp; rfl)); intro gb325 hg w36 hbox hb; have BK325 := as_ (hbox); have GW325 := gw hg bA; have GE325 := gw hg bA; have NB300_325 := nl BK300 hg; have NB325_300 := ng BK300 hg; have NB301_325 := nl BK301 hg; have NB325_301 := ng BK301 hg; have NB302_325 := nl BK302 hg; have NB325_302 := ng BK302 hg; replace BK300 := bb BK300 hb; replace BK301 := bb BK301 hb; replace BK302 := bb BK302 hb; replace HB := as_ (below_step bA hb); clear hb hbox hg; have hnb37 := NB325_300.out; have hnc37 := NB300_325.out; have hnb38 := NB325_301.out; have hnc38 := NB301_325.out; have hnb39 := NB325_302.out; have hnc39 := NB302_325.out; obtain ⟨hcz40_0, hcz40_1, hcz40_2, hcz40_3⟩ := zc4 BK325; obtain ⟨hfz40_0, hfz40_1, hfz40_2, hfz40_3⟩ := zf4 BK325; obtain ⟨hcz41_0, hcz41_1⟩ := zc2 BK302; obtain ⟨hfz41_0, hfz41_1⟩ := zf2 BK302) | ((with_reducible refine gate_callee (f := 14) rfl ?_); refine goesL_ (some 52) rfl rfl Tryd.func14 (by kernel_rfl) rfl #[.string js9, .int .i64 a2_1] rfl aO ?_; (with_reducible refine (withyref03_Get.calls k js9 a2_1 t326 t327 t328 t329 t330 t331 _ A14.out).mono ?_); rintro e w42 ⟨rfl, hb⟩; refine ⟨_, rfl, ?_⟩; replace BK300 := as_ (blk_below (g := gb300) (o := .cells #[.int .i64 t303, .int .i64 t304, .int .u64 t305, .string t306] 24 (0, 0)) (by refine bx ?_; refine blk_far ?_ NB300_325.out _; refine bx ?_; refine blk_far ?_ NB300_325.out _; refine bx ?_; refine blk_far ?_ NB300_325.out _; refine bx ?_; refine blk_far ?_ NB300_325.out _; refine bx ?_; exact BK300.out) hb); replace BK301 := as_ (blk_below (g := gb301) (o := .cells #[.int .i64 t307, .int .i64 t308, .int .u64 t309, .string t310] 24 (0, 0)) (by refine bx ?_; refine blk_far ?_ NB301_325.out _; refine bx ?_; refine blk_far ?_ NB301_325.out _; refine bx ?_; refine blk_far ?_ NB301_325.out _; refine bx ?_; refine blk_far ?_ NB301_325.out _; refine bx ?_; exact BK301.out) hb); replace BK302 := as_ (blk_below (g := gb302) (o := .cells #[.string a2_0, .int .i64 a2_1] 26 (0, 0)) (by refine bx ?_; refine blk_far ?_ NB302_325.out _; refine bx ?_; refine blk_far ?_ NB302_325.out _; refine bx ?_; refine blk_far ?_ NB302_325.out _; refine bx ?_; refine blk_far ?_ NB302_325.out _; refine bx ?_; exact BK302.out) hb); replace BK325 := as_ (blk_below (g := gb325) (o := .cells #[.int .i64 t319, .int .i64 t320, .int .u64 t321, .string t322] 24 (0, 0)) (by refine bx ?_; refine blk_put (cs := #[.int .i64 t319, .int .i64 t320, .int .u64 t321, .string (⟨#[]⟩ : ByteArray)]) ?_ 3 _ rfl; refine bx ?_; refine blk_put (cs := #[.int .i64 t319, .int .i64 t320, .int .u64 0, .string (⟨#[]⟩ : ByteArray)]) ?_ 2 _ rfl; refine bx ?_; refine blk_put (cs := #[.int .i64 t319, .int .i64 0, .int .u64 0, .string (⟨#[]⟩ : ByteArray)]) ?_ 1 _ rfl; refine bx ?_; refine blk_put (cs := #[.int .i64 0, .int .i64 0, .int .u64 0, .string (⟨#[]⟩ : ByteArray)]) ?_ 0 _ rfl; refine bx ?_; exact BK325.out) hb); replace HB := as_ (below_step bA hb); (try clear hb); (try clear hb2); (try clear hk); (try clear hi)) | ((with_reducible refine gate_dst (N := 15) rfl ?_); refine box_event ?hg (N := 15) ?hd (cs := #[.int .i64 0, .int .i64 0, .int .u64 0, .string (⟨#[]⟩ : ByteArray)]) (t := 32) ?hr ?_; (case hd => rfl); (case hg => rfl); (case hr => first | (go_simp; done) | (go_simp; rfl)); intro gb332 hg w43 hbox hb; have BK332 := as_ (hbox); have GW332 := gw hg bA; have GE332 := gw hg bA; have NB300_332 := nl BK300 hg; have NB332_300 := ng BK300 hg; have NB301_332 := nl BK301 hg; have NB332_301 := ng BK301 hg; have NB302_332 := nl BK302 hg; have NB332_302 := ng BK302 hg; have NB325_332 := nl BK325 hg; have NB332_325 := ng BK325 hg; replace BK300 := bb BK300 hb; replace BK301 := bb BK301 hb; replace BK302 := bb BK302 hb; replace BK325 := bb BK325 hb; replace HB := as_ (below_step bA hb); clear hb hbox hg; have hnb44 := NB332_300.out; have hnc44 := NB300_332.out; have hnb45 := NB332_301.out; have hnc45 := NB301_332.out; have hnb46 := NB332_302.out; have hnc46 := NB302_332.out; have hnb47 := NB332_325.out; have hnc47 := NB325_332.out; obtain ⟨hcz48_0, hcz48_1, hcz48_2, hcz48_3⟩ := zc4 BK332; obtain ⟨hfz48_0, hfz48_1, hfz48_2, hfz48_3⟩ := zf4 BK332))
 (try simp only [Act.put, List.setIfInBounds_toArray, List.set_cons_zero, List.set_cons_succ])
 go_cut [82] (fun v82 wc => ∃ (kq : Nat) (x82_14 : Bool), v82 = .bool x82_14 ∧ Aside0 (withylaw03_ColTells.j0 kq t311 t312 t317 t318 t323 t324 t330 t331 x82_14 t319 t320 t321 t322 t326 t327 t328 t329 = some r) ∧ Aside0 (kq ≤ k) ∧ Aside0 (wc.heap[gb300]? = some (.cells #[.int .i64 t303, .int .i64 t304, .int .u64 t305, .string t306] 24 (0, 0))) ∧ Aside0 (wc.heap[gb301]? = some (.cells #[.int .i64 t307, .int .i64 t308, .int .u64 t309, .string t310] 24 (0, 0))) ∧ Aside0 (wc.heap[gb302]? = some (.cells #[.string a2_0, .int .i64 a2_1] 26 (0, 0))) ∧ Aside0 (wc.heap[gb325]? = some (.cells #[.int .i64 t319, .int .i64 t320, .int .u64 t321, .string t322] 24 (0, 0))) ∧ Aside0 (wc.heap[gb332]? = some (.cells #[.int .i64 t326, .int .i64 t327, .int .u64 t328, .string t329] 32 (0, 0))) ∧ Aside0 (Below w.heap.size w wc))
 case first =>
  have H := HC15.out
  clear HC15
  replace H := bM H
  obtain ⟨t333, A490, H⟩ := H
  replace H : ((withylaw03_Ref.f t303 t304 t305 t306).bind fun bt334 => ((withyref03_Right.f bt334.1 bt334.2.1 bt334.2.2.1 bt334.2.2.2).bind fun t338 => (if (t333 != t338) = true then (withylaw03_ColTells.j0 k t311 t312 t317 t318 t323 t324 t330 t331 true t319 t320 t321 t322 t326 t327 t328 t329) else ((withylaw03_Ref.f t303 t304 t305 t306).bind fun bt339 => ((withyref03_Right.f bt339.1 bt339.2.1 bt339.2.2.1 bt339.2.2.2).bind fun t343 => (if t343 = true then ((withylaw03_Ref.f t307 t308 t309 t310).bind fun bt344 => ((withyref03_Right.f bt344.1 bt344.2.1 bt344.2.2.1 bt344.2.2.2).bind fun t348 => (if t348 = true then ((col_Compare.f k t303 t304 t305 t306 t307 t308 t309 t310).bind fun t349 => ((withylaw03_Ref.f t303 t304 t305 t306).bind fun bt350 => ((withylaw03_Ref.f t307 t308 t309 t310).bind fun bt354 => ((withyref03_Compare.f bt350.1 bt350.2.1 bt350.2.2.1 bt350.2.2.2 bt354.1 bt354.2.1 bt354.2.2.1 bt354.2.2.2).bind fun t358 => (withylaw03_ColTells.j0 k t311 t312 t317 t318 t323 t324 t330 t331 (t349 != t358) t319 t320 t321 t322 t326 t327 t328 t329))))) else (withylaw03_ColTells.j0 k t311 t312 t317 t318 t323 t324 t330 t331 false t319 t320 t321 t322 t326 t327 t328 t329)))) else (withylaw03_ColTells.j0 k t311 t312 t317 t318 t323 t324 t330 t331 false t319 t320 t321 t322 t326 t327 t328 t329))))))) = some r := H
  have A49 := Aside0.mk A490
  clear A490
  replace H := bM H
  obtain ⟨⟨t334, t335, t336, t337⟩, A500, H⟩ := H
  replace H : ((withyref03_Right.f t334 t335 t336 t337).bind fun t338 => (if (t333 != t338) = true then (withylaw03_ColTells.j0 k t311 t312 t317 t318 t323 t324 t330 t331 true t319 t320 t321 t322 t326 t327 t328 t329) else ((withylaw03_Ref.f t303 t304 t305 t306).bind fun bt339 => ((withyref03_Right.f bt339.1 bt339.2.1 bt339.2.2.1 bt339.2.2.2).bind fun t343 => (if t343 = true then ((withylaw03_Ref.f t307 t308 t309 t310).bind fun bt344 => ((withyref03_Right.f bt344.1 bt344.2.1 bt344.2.2.1 bt344.2.2.2).bind fun t348 => (if t348 = true then ((col_Compare.f k t303 t304 t305 t306 t307 t308 t309 t310).bind fun t349 => ((withylaw03_Ref.f t303 t304 t305 t306).bind fun bt350 => ((withylaw03_Ref.f t307 t308 t309 t310).bind fun bt354 => ((withyref03_Compare.f bt350.1 bt350.2.1 bt350.2.2.1 bt350.2.2.2 bt354.1 bt354.2.1 bt354.2.2.1 bt354.2.2.2).bind fun t358 => (withylaw03_ColTells.j0 k t311 t312 t317 t318 t323 t324 t330 t331 (t349 != t358) t319 t320 t321 t322 t326 t327 t328 t329))))) else (withylaw03_ColTells.j0 k t311 t312 t317 t318 t323 t324 t330 t331 false t319 t320 t321 t322 t326 t327 t328 t329)))) else (withylaw03_ColTells.j0 k t311 t312 t317 t318 t323 t324 t330 t331 false t319 t320 t321 t322 t326 t327 t328 t329)))))) = some r := H
  have A50 := Aside0.mk A500
  clear A500
  replace H := bM H
  obtain ⟨t338, A510, H⟩ := H
  replace H : (if (t333 != t338) = true then (withylaw03_ColTells.j0 k t311 t312 t317 t318 t323 t324 t330 t331 true t319 t320 t321 t322 t326 t327 t328 t329) else ((withylaw03_Ref.f t303 t304 t305 t306).bind fun bt339 => ((withyref03_Right.f bt339.1 bt339.2.1 bt339.2.2.1 bt339.2.2.2).bind fun t343 => (if t343 = true then ((withylaw03_Ref.f t307 t308 t309 t310).bind fun bt344 => ((withyref03_Right.f bt344.1 bt344.2.1 bt344.2.2.1 bt344.2.2.2).bind fun t348 => (if t348 = true then ((col_Compare.f k t303 t304 t305 t306 t307 t308 t309 t310).bind fun t349 => ((withylaw03_Ref.f t303 t304 t305 t306).bind fun bt350 => ((withylaw03_Ref.f t307 t308 t309 t310).bind fun bt354 => ((withyref03_Compare.f bt350.1 bt350.2.1 bt350.2.2.1 bt350.2.2.2 bt354.1 bt354.2.1 bt354.2.2.1 bt354.2.2.2).bind fun t358 => (withylaw03_ColTells.j0 k t311 t312 t317 t318 t323 t324 t330 t331 (t349 != t358) t319 t320 t321 t322 t326 t327 t328 t329))))) else (withylaw03_ColTells.j0 k t311 t312 t317 t318 t323 t324 t330 t331 false t319 t320 t321 t322 t326 t327 t328 t329)))) else (withylaw03_ColTells.j0 k t311 t312 t317 t318 t323 t324 t330 t331 false t319 t320 t321 t322 t326 t327 t328 t329))))) = some r := H
  have A51 := Aside0.mk A510
  clear A510
  by_cases c52 : (t333 != t338) = true
  ·rw [if_pos c52] at H
   have c52b0 : (t333 != t338) = true := c52
   (try (have c52b1 : t333 = !t338 := by simpa using c52))
   (try (have c52b2 : decide (t333 = t338) = false := by simpa using c52))
   (try (have c52b3 : (t333 == t338) = false := by simpa using c52))
   (try (have c52b4 : ¬ (t333 = t338) := by simpa using c52))
   clear c52
   (first | rw [c52b0] | (simp only [i64_w, i32_w]; rw [c52b0]) | rw [c52b1] | skip)
   have H' := Aside0.mk H
   clear H
   try go_wp2
   have n0_ : Aside0 (((((w43.setCell ⟨gb332, 0, none⟩ (.int .i64 t326)).setCell ⟨gb332, 1, none⟩ (.int .i64 t327)).setCell ⟨gb332, 2, none⟩ (.int .u64 t328)).setCell ⟨gb332, 3, none⟩ (.string t329)).heap[gb300]? = some (.cells #[.int .i64 t303, .int .i64 t304, .int .u64 t305, .string t306] 24 (0, 0))) := ⟨by refine bx ?_; refine blk_far ?_ NB300_332.out _; refine bx ?_; refine blk_far ?_ NB300_332.out _; refine bx ?_; refine blk_far ?_ NB300_332.out _; refine bx ?_; refine blk_far ?_ NB300_332.out _; refine bx ?_; exact BK300.out⟩
   have n1_ : Aside0 (((((w43.setCell ⟨gb332, 0, none⟩ (.int .i64 t326)).setCell ⟨gb332, 1, none⟩ (.int .i64 t327)).setCell ⟨gb332, 2, none⟩ (.int .u64 t328)).setCell ⟨gb332, 3, none⟩ (.string t329)).heap[gb301]? = some (.cells #[.int .i64 t307, .int .i64 t308, .int .u64 t309, .string t310] 24 (0, 0))) := ⟨by refine bx ?_; refine blk_far ?_ NB301_332.out _; refine bx ?_; refine blk_far ?_ NB301_332.out _; refine bx ?_; refine blk_far ?_ NB301_332.out _; refine bx ?_; refine blk_far ?_ NB301_332.out _; refine bx ?_; exact BK301.out⟩
   have n2_ : Aside0 (((((w43.setCell ⟨gb332, 0, none⟩ (.int .i64 t326)).setCell ⟨gb332, 1, none⟩ (.int .i64 t327)).setCell ⟨gb332, 2, none⟩ (.int .u64 t328)).setCell ⟨gb332, 3, none⟩ (.string t329)).heap[gb302]? = some (.cells #[.string a2_0, .int .i64 a2_1] 26 (0, 0))) := ⟨by refine bx ?_; refine blk_far ?_ NB302_332.out _; refine bx ?_; refine blk_far ?_ NB302_332.out _; refine bx ?_; refine blk_far ?_ NB302_332.out _; refine bx ?_; refine blk_far ?_ NB302_332.out _; refine bx ?_; exact BK302.out⟩
   have n3_ : Aside0 (((((w43.setCell ⟨gb332, 0, none⟩ (.int .i64 t326)).setCell ⟨gb332, 1, none⟩ (.int .i64 t327)).setCell ⟨gb332, 2, none⟩ (.int .u64 t328)).setCell ⟨gb332, 3, none⟩ (.string t329)).heap[gb325]? = some (.cells #[.int .i64 t319, .int .i64 t320, .int .u64 t321, .string t322] 24 (0, 0))) := ⟨by refine bx ?_; refine blk_far ?_ NB325_332.out _; refine bx ?_; refine blk_far ?_ NB325_332.out _; refine bx ?_; refine blk_far ?_ NB325_332.out _; refine bx ?_; refine blk_far ?_ NB325_332.out _; refine bx ?_; exact BK325.out⟩
   have n4_ : Aside0 (((((w43.setCell ⟨gb332, 0, none⟩ (.int .i64 t326)).setCell ⟨gb332, 1, none⟩ (.int .i64 t327)).setCell ⟨gb332, 2, none⟩ (.int .u64 t328)).setCell ⟨gb332, 3, none⟩ (.string t329)).heap[gb332]? = some (.cells #[.int .i64 t326, .int .i64 t327, .int .u64 t328, .string t329] 32 (0, 0))) := ⟨by refine bx ?_; refine blk_put (cs := #[.int .i64 t326, .int .i64 t327, .int .u64 t328, .string (⟨#[]⟩ : ByteArray)]) ?_ 3 _ rfl; refine bx ?_; refine blk_put (cs := #[.int .i64 t326, .int .i64 t327, .int .u64 0, .string (⟨#[]⟩ : ByteArray)]) ?_ 2 _ rfl; refine bx ?_; refine blk_put (cs := #[.int .i64 t326, .int .i64 0, .int .u64 0, .string (⟨#[]⟩ : ByteArray)]) ?_ 1 _ rfl; refine bx ?_; refine blk_put (cs := #[.int .i64 0, .int .i64 0, .int .u64 0, .string (⟨#[]⟩ : ByteArray)]) ?_ 0 _ rfl; refine bx ?_; exact BK332.out⟩
   have n5_ : Aside0 (Below w.heap.size w ((((w43.setCell ⟨gb332, 0, none⟩ (.int .i64 t326)).setCell ⟨gb332, 1, none⟩ (.int .i64 t327)).setCell ⟨gb332, 2, none⟩ (.int .u64 t328)).setCell ⟨gb332, 3, none⟩ (.string t329))) := ⟨by repeat (first | (with_reducible first | exact HB.out | apply below_alloc | apply pw_below_drewN | apply below_drew1 | refine below_set ?_ GE300.out | refine below_set ?_ GE301.out | refine below_set ?_ GE302.out | refine below_set ?_ GE325.out | refine below_set ?_ GE332.out) | exact HB.out)⟩
   (try clear BK300)
   (try clear BK301)
   (try clear BK302)
   (try clear BK325)
   (try clear BK332)
   (try clear HB)
   generalize ((((w43.setCell ⟨gb332, 0, none⟩ (.int .i64 t326)).setCell ⟨gb332, 1, none⟩ (.int .i64 t327)).setCell ⟨gb332, 2, none⟩ (.int .u64 t328)).setCell ⟨gb332, 3, none⟩ (.string t329)) = w53 at n0_ n1_ n2_ n3_ n4_ n5_ ⊢
   have BK300 := n0_
   have BK301 := n1_
   have BK302 := n2_
   have BK325 := n3_
   have BK332 := n4_
   have HB := n5_
   clear n0_ n1_ n2_ n3_ n4_ n5_
   replace BK300 := as_ (blk_drew BK300.out)
   replace BK301 := as_ (blk_drew BK301.out)
   replace BK302 := as_ (blk_drew BK302.out)
   replace BK325 := as_ (blk_drew BK325.out)
   replace BK332 := as_ (blk_drew BK332.out)
   replace HB := as_ (below_drew1 HB.out)
   refine start_ (n := 27) (S := fun w' => w'.cell? ⟨gb300, 0, none⟩ = some (.int .i64 t303) ∧ w'.cell? ⟨gb300, 1, none⟩ = some (.int .i64 t304) ∧ w'.cell? ⟨gb300, 2, none⟩ = some (.int .u64 t305) ∧ w'.cell? ⟨gb300, 3, none⟩ = some (.string t306)) (ds := []) #[ff, ff, ff, ff, ff, ff, ff, ff, ff, ff, ff, ff, ff, ff, ff, ff, ff, ff, ff, ff, ff, ff, ff, ff, ff, ff, ff] (by kernel_rfl) rfl rfl ⟨(blk_cell BK300.out 0).trans rfl, (blk_cell BK300.out 1).trans rfl, (blk_cell BK300.out 2).trans rfl, (blk_cell BK300.out 3).trans rfl⟩ (fun hHeld => ?_); refine with_tabW withylaw03_ColTells.tab8 withylaw03_ColTells.bits8 (fun HT_ HW_ => ?_)
   generalize w53.drew = w54 at BK300 BK301 BK302 BK325 BK332 HB hHeld ⊢
   refine take_ (i := 0) (N := some 56) (v := ?_) (a' := ?_) #[tt, ff, ff, ff, ff, ff, ff, ff, ff, ff, ff, ff, ff, ff, ff, ff, ff, ff, ff, ff, ff, ff, ff, ff, ff, ff, ff] rfl rfl (take_ofW HT_.out HW_.out (by kernel_rfl)) (fun _ _ _ h => h) (Or.inl ⟨by rfl, ?_⟩) hHeld ?_ ?_
   rotate_left
   ·rintro w' ⟨s0, s1, s2, s3⟩
    go_simp
    with_reducible rfl
   rotate_left
   ·exact aP
   refine take_ (i := 2) (N := some 58) (v := ?_) (a' := ?_) #[tt, ff, tt, ff, ff, ff, ff, ff, ff, ff, ff, ff, ff, ff, ff, ff, ff, ff, ff, ff, ff, ff, ff, ff, ff, ff, ff] rfl rfl (take_ofW HT_.out HW_.out (by kernel_rfl)) (fun _ _ _ h => h) (Or.inl ⟨by rfl, ?_⟩) hHeld ?_ ?_
   rotate_left
   ·rintro w' ⟨s0, s1, s2, s3⟩
    go_simp
    with_reducible rfl
   rotate_left
   ·exact aP
   refine one_ (i := 1) (N := some 57) #[tt, tt, tt, ff, ff, ff, ff, ff, ff, ff, ff, ff, ff, ff, ff, ff, ff, ff, ff, ff, ff, ff, ff, ff, ff, ff, ff] rfl rfl (one_of HT_.out (by kernel_rfl)) (by decide) (fun K hK => ?_)
   refine goes_ Tryd.func15 (by kernel_rfl) rfl #[.agg #[.int .i64 t303, .int .i64 t304, .int .u64 t305, .string t306]] (by rfl) rfl rfl aO ?_
   with_reducible refine (col_Right.calls k t303 t304 t305 t306 t333 _ A49.out).mono ?_
   rintro e w55 ⟨rfl, hb⟩
   refine ⟨_, rfl, ?_⟩
   replace BK300 := bb BK300 hb
   replace BK301 := bb BK301 hb
   replace BK302 := bb BK302 hb
   replace BK325 := bb BK325 hb
   replace BK332 := bb BK332 hb
   replace HB := as_ (below_step bA hb)
   (try clear hb)
   (try clear hb2)
   (try clear hk)
   (try clear hi)
   refine hK.out _ _ ⟨(blk_cell BK300.out 0).trans rfl, (blk_cell BK300.out 1).trans rfl, (blk_cell BK300.out 2).trans rfl, (blk_cell BK300.out 3).trans rfl⟩ (fun hHeld => ?_)
   clear hK K
   refine norm_ (a' := ?_) ?_ ?_
   rotate_left
   ·show Act.put _ (some 57) _ = _
    simp only [Act.put, List.setIfInBounds_toArray, List.set_cons_zero, List.set_cons_succ, i64_w, i32_w]
    rfl
   refine one_ (i := 3) (N := some 59) #[tt, tt, tt, tt, ff, ff, ff, ff, ff, ff, ff, ff, ff, ff, ff, ff, ff, ff, ff, ff, ff, ff, ff, ff, ff, ff, ff] rfl rfl (one_of HT_.out (by kernel_rfl)) (by decide) (fun K hK => ?_)
   refine goes_ Tryd.func12 (by kernel_rfl) rfl #[.agg #[.int .i64 t303, .int .i64 t304, .int .u64 t305, .string t306]] (by rfl) rfl rfl aO ?_
   with_reducible refine (withylaw03_Ref.calls t303 t304 t305 t306 t334 t335 t336 t337 _ A50.out).mono ?_
   rintro e w56 ⟨rfl, hb⟩
   refine ⟨_, rfl, ?_⟩
   replace BK300 := bb BK300 hb
   replace BK301 := bb BK301 hb
   replace BK302 := bb BK302 hb
   replace BK325 := bb BK325 hb
   replace BK332 := bb BK332 hb
   replace HB := as_ (below_step bA hb)
   (try clear hb)
   (try clear hb2)
   (try clear hk)
   (try clear hi)
   refine hK.out _ _ ⟨(blk_cell BK300.out 0).trans rfl, (blk_cell BK300.out 1).trans rfl, (blk_cell BK300.out 2).trans rfl, (blk_cell BK300.out 3).trans rfl⟩ (fun hHeld => ?_)
   clear hK K
   refine norm_ (a' := ?_) ?_ ?_
   rotate_left
   ·show Act.put _ (some 59) _ = _
    simp only [Act.put, List.setIfInBounds_toArray, List.set_cons_zero, List.set_cons_succ, i64_w, i32_w]
    rfl
   refine one_ (i := 4) (N := some 60) #[tt, tt, tt, tt, tt, ff, ff, ff, ff, ff, ff, ff, ff, ff, ff, ff, ff, ff, ff, ff, ff, ff, ff, ff, ff, ff, ff] rfl rfl (one_of HT_.out (by kernel_rfl)) (by decide) (fun K hK => ?_)
   refine goes_ Tryd.func16 (by kernel_rfl) rfl #[.agg #[.int .i64 t334, .int .i64 t335, .int .u64 t336, .string t337]] (by rfl) rfl rfl aO ?_
   with_reducible refine (withyref03_Right.calls t334 t335 t336 t337 t338 _ A51.out).mono ?_
   rintro e w57 ⟨rfl, hb⟩
   refine ⟨_, rfl, ?_⟩
   replace BK300 := bb BK300 hb
   replace BK301 := bb BK301 hb
   replace BK302 := bb BK302 hb
   replace BK325 := bb BK325 hb
   replace BK332 := bb BK332 hb
   replace HB := as_ (below_step bA hb)
   (try clear hb)
   (try clear hb2)
   (try clear hk)
   (try clear hi)
   refine hK.out _ _ ⟨(blk_cell BK300.out 0).trans rfl, (blk_cell BK300.out 1).trans rfl, (blk_cell BK300.out 2).trans rfl, (blk_cell BK300.out 3).trans rfl⟩ (fun hHeld => ?_)
   clear hK K
   refine norm_ (a' := ?_) ?_ ?_
   rotate_left
   ·show Act.put _ (some 60) _ = _
    simp only [Act.put, List.setIfInBounds_toArray, List.set_cons_zero, List.set_cons_succ, i64_w, i32_w]
    rfl
   refine pure_ (i := 5) (N := some 61) (v := ?_) (a' := ?_) #[tt, tt, tt, tt, tt, tt, ff, ff, ff, ff, ff, ff, ff, ff, ff, ff, ff, ff, ff, ff, ff, ff, ff, ff, ff, ff, ff] rfl rfl (any_of HT_.out (by kernel_rfl)) (fun _ _ _ h => h) (Or.inl ⟨by rfl, ?_⟩) ?_ ?_
   rotate_left
   ·intro w'
    go_simp
    with_reducible rfl
   rotate_left
   ·exact aP
   refine pure_ (i := 6) (N := some 62) (v := ?_) (a' := ?_) #[tt, tt, tt, tt, tt, tt, tt, ff, ff, ff, ff, ff, ff, ff, ff, ff, ff, ff, ff, ff, ff, ff, ff, ff, ff, ff, ff] rfl rfl (any_of HT_.out (by kernel_rfl)) (fun _ _ _ h => h) (Or.inl ⟨by rfl, ?_⟩) ?_ ?_
   rotate_left
   ·intro w'
    go_simp
    with_reducible rfl
   rotate_left
   ·exact aP
   refine pure_ (i := 7) (N := some 63) (v := undef) (a' := ?_) #[tt, tt, tt, tt, tt, tt, tt, tt, ff, ff, ff, ff, ff, ff, ff, ff, ff, ff, ff, ff, ff, ff, ff, ff, ff, ff, ff] rfl rfl (any_of HT_.out (by kernel_rfl)) (fun _ _ _ h => h) (Or.inr ⟨by rfl, rfl⟩) ?_ ?_
   rotate_left
   ·exact aP
   refine pure_ (i := 8) (N := some 64) (v := undef) (a' := ?_) #[tt, tt, tt, tt, tt, tt, tt, tt, tt, ff, ff, ff, ff, ff, ff, ff, ff, ff, ff, ff, ff, ff, ff, ff, ff, ff, ff] rfl rfl (any_of HT_.out (by kernel_rfl)) (fun _ _ _ h => h) (Or.inr ⟨by rfl, rfl⟩) ?_ ?_
   rotate_left
   ·exact aP
   refine pure_ (i := 9) (N := some 65) (v := undef) (a' := ?_) #[tt, tt, tt, tt, tt, tt, tt, tt, tt, tt, ff, ff, ff, ff, ff, ff, ff, ff, ff, ff, ff, ff, ff, ff, ff, ff, ff] rfl rfl (any_of HT_.out (by kernel_rfl)) (fun _ _ _ h => h) (Or.inr ⟨by rfl, rfl⟩) ?_ ?_
   rotate_left
   ·exact aP
   refine pure_ (i := 10) (N := some 66) (v := undef) (a' := ?_) #[tt, tt, tt, tt, tt, tt, tt, tt, tt, tt, tt, ff, ff, ff, ff, ff, ff, ff, ff, ff, ff, ff, ff, ff, ff, ff, ff] rfl rfl (any_of HT_.out (by kernel_rfl)) (fun _ _ _ h => h) (Or.inr ⟨by rfl, rfl⟩) ?_ ?_
   rotate_left
   ·exact aP
   refine pure_ (i := 11) (N := some 67) (v := undef) (a' := ?_) #[tt, tt, tt, tt, tt, tt, tt, tt, tt, tt, tt, tt, ff, ff, ff, ff, ff, ff, ff, ff, ff, ff, ff, ff, ff, ff, ff] rfl rfl (any_of HT_.out (by kernel_rfl)) (fun _ _ _ h => h) (Or.inr ⟨by rfl, rfl⟩) ?_ ?_
   rotate_left
   ·exact aP
   refine pure_ (i := 12) (N := some 68) (v := undef) (a' := ?_) #[tt, tt, tt, tt, tt, tt, tt, tt, tt, tt, tt, tt, tt, ff, ff, ff, ff, ff, ff, ff, ff, ff, ff, ff, ff, ff, ff] rfl rfl (any_of HT_.out (by kernel_rfl)) (fun _ _ _ h => h) (Or.inr ⟨by rfl, rfl⟩) ?_ ?_
   rotate_left
   ·exact aP
   refine pure_ (i := 13) (N := some 69) (v := undef) (a' := ?_) #[tt, tt, tt, tt, tt, tt, tt, tt, tt, tt, tt, tt, tt, tt, ff, ff, ff, ff, ff, ff, ff, ff, ff, ff, ff, ff, ff] rfl rfl (any_of HT_.out (by kernel_rfl)) (fun _ _ _ h => h) (Or.inr ⟨by rfl, rfl⟩) ?_ ?_
   rotate_left
   ·exact aP
   refine pure_ (i := 14) (N := some 70) (v := undef) (a' := ?_) #[tt, tt, tt, tt, tt, tt, tt, tt, tt, tt, tt, tt, tt, tt, tt, ff, ff, ff, ff, ff, ff, ff, ff, ff, ff, ff, ff] rfl rfl (any_of HT_.out (by kernel_rfl)) (fun _ _ _ h => h) (Or.inr ⟨by rfl, rfl⟩) ?_ ?_
   rotate_left
   ·exact aP
   refine pure_ (i := 15) (N := some 71) (v := undef) (a' := ?_) #[tt, tt, tt, tt, tt, tt, tt, tt, tt, tt, tt, tt, tt, tt, tt, tt, ff, ff, ff, ff, ff, ff, ff, ff, ff, ff, ff] rfl rfl (any_of HT_.out (by kernel_rfl)) (fun _ _ _ h => h) (Or.inr ⟨by rfl, rfl⟩) ?_ ?_
   rotate_left
   ·exact aP
   refine pure_ (i := 16) (N := some 72) (v := undef) (a' := ?_) #[tt, tt, tt, tt, tt, tt, tt, tt, tt, tt, tt, tt, tt, tt, tt, tt, tt, ff, ff, ff, ff, ff, ff, ff, ff, ff, ff] rfl rfl (any_of HT_.out (by kernel_rfl)) (fun _ _ _ h => h) (Or.inr ⟨by rfl, rfl⟩) ?_ ?_
   rotate_left
   ·exact aP
   refine pure_ (i := 17) (N := some 73) (v := undef) (a' := ?_) #[tt, tt, tt, tt, tt, tt, tt, tt, tt, tt, tt, tt, tt, tt, tt, tt, tt, tt, ff, ff, ff, ff, ff, ff, ff, ff, ff] rfl rfl (any_of HT_.out (by kernel_rfl)) (fun _ _ _ h => h) (Or.inr ⟨by rfl, rfl⟩) ?_ ?_
   rotate_left
   ·exact aP
   refine pure_ (i := 18) (N := some 74) (v := undef) (a' := ?_) #[tt, tt, tt, tt, tt, tt, tt, tt, tt, tt, tt, tt, tt, tt, tt, tt, tt, tt, tt, ff, ff, ff, ff, ff, ff, ff, ff] rfl rfl (any_of HT_.out (by kernel_rfl)) (fun _ _ _ h => h) (Or.inr ⟨by rfl, rfl⟩) ?_ ?_
   rotate_left
   ·exact aP
   refine pure_ (i := 19) (N := some 75) (v := undef) (a' := ?_) #[tt, tt, tt, tt, tt, tt, tt, tt, tt, tt, tt, tt, tt, tt, tt, tt, tt, tt, tt, tt, ff, ff, ff, ff, ff, ff, ff] rfl rfl (any_of HT_.out (by kernel_rfl)) (fun _ _ _ h => h) (Or.inr ⟨by rfl, rfl⟩) ?_ ?_
   rotate_left
   ·exact aP
   refine pure_ (i := 20) (N := some 76) (v := undef) (a' := ?_) #[tt, tt, tt, tt, tt, tt, tt, tt, tt, tt, tt, tt, tt, tt, tt, tt, tt, tt, tt, tt, tt, ff, ff, ff, ff, ff, ff] rfl rfl (any_of HT_.out (by kernel_rfl)) (fun _ _ _ h => h) (Or.inr ⟨by rfl, rfl⟩) ?_ ?_
   rotate_left
   ·exact aP
   refine pure_ (i := 21) (N := some 77) (v := undef) (a' := ?_) #[tt, tt, tt, tt, tt, tt, tt, tt, tt, tt, tt, tt, tt, tt, tt, tt, tt, tt, tt, tt, tt, tt, ff, ff, ff, ff, ff] rfl rfl (any_of HT_.out (by kernel_rfl)) (fun _ _ _ h => h) (Or.inr ⟨by rfl, rfl⟩) ?_ ?_
   rotate_left
   ·exact aP
   refine pure_ (i := 22) (N := some 78) (v := undef) (a' := ?_) #[tt, tt, tt, tt, tt, tt, tt, tt, tt, tt, tt, tt, tt, tt, tt, tt, tt, tt, tt, tt, tt, tt, tt, ff, ff, ff, ff] rfl rfl (any_of HT_.out (by kernel_rfl)) (fun _ _ _ h => h) (Or.inr ⟨by rfl, rfl⟩) ?_ ?_
   rotate_left
   ·exact aP
   refine pure_ (i := 23) (N := some 79) (v := undef) (a' := ?_) #[tt, tt, tt, tt, tt, tt, tt, tt, tt, tt, tt, tt, tt, tt, tt, tt, tt, tt, tt, tt, tt, tt, tt, tt, ff, ff, ff] rfl rfl (any_of HT_.out (by kernel_rfl)) (fun _ _ _ h => h) (Or.inr ⟨by rfl, rfl⟩) ?_ ?_
   rotate_left
   ·exact aP
   refine pure_ (i := 24) (N := some 80) (v := undef) (a' := ?_) #[tt, tt, tt, tt, tt, tt, tt, tt, tt, tt, tt, tt, tt, tt, tt, tt, tt, tt, tt, tt, tt, tt, tt, tt, tt, ff, ff] rfl rfl (any_of HT_.out (by kernel_rfl)) (fun _ _ _ h => h) (Or.inr ⟨by rfl, rfl⟩) ?_ ?_
   rotate_left
   ·exact aP
   refine pure_ (i := 25) (N := some 81) (v := undef) (a' := ?_) #[tt, tt, tt, tt, tt, tt, tt, tt, tt, tt, tt, tt, tt, tt, tt, tt, tt, tt, tt, tt, tt, tt, tt, tt, tt, tt, ff] rfl rfl (any_of HT_.out (by kernel_rfl)) (fun _ _ _ h => h) (Or.inr ⟨by rfl, rfl⟩) ?_ ?_
   rotate_left
   ·exact aP
   refine pure_ (i := 26) (N := some 82) (v := ?_) (a' := ?_) #[tt, tt, tt, tt, tt, tt, tt, tt, tt, tt, tt, tt, tt, tt, tt, tt, tt, tt, tt, tt, tt, tt, tt, tt, tt, tt, tt] rfl rfl (any_of HT_.out (by kernel_rfl)) (fun _ _ _ h => h) (Or.inl ⟨by rfl, ?_⟩) ?_ ?_
   rotate_left
   ·intro w'
    go_simp
    with_reducible rfl
   rotate_left
   ·exact aP
   refine done_ (done_of HT_.out (by kernel_rfl)) ?_
   try go_wp2
   go_meet
   case rel => exact ⟨_, (true), (by first | rfl | (simp; done) | (simp [*]; done)), H', ⟨by first | omega | exact Nat.le_refl _⟩, ⟨by refine bx ?_; exact BK300.out⟩, ⟨by refine bx ?_; exact BK301.out⟩, ⟨by refine bx ?_; exact BK302.out⟩, ⟨by refine bx ?_; exact BK325.out⟩, ⟨by refine bx ?_; exact BK332.out⟩, ⟨by repeat (first | (with_reducible first | exact HB.out | apply below_alloc | apply pw_below_drewN | apply below_drew1 | refine below_set ?_ GE300.out | refine below_set ?_ GE301.out | refine below_set ?_ GE302.out | refine below_set ?_ GE325.out | refine below_set ?_ GE332.out) | exact HB.out)⟩⟩
  rw [if_neg c52] at H
  have c52b0 : (t333 != t338) = false := by simpa using c52
  (try (have c52b1 : t333 = t338 := by simpa using c52))
  (try (have c52b2 : decide (t333 = t338) = true := by simpa using c52))
  (try (have c52b3 : (t333 == t338) = true := by simpa using c52))
  clear c52
  (first | rw [c52b0] | (simp only [i64_w, i32_w]; rw [c52b0]) | rw [c52b1] | skip)
  replace H := bM H
  obtain ⟨⟨t339, t340, t341, t342⟩, A580, H⟩ := H
  replace H : ((withyref03_Right.f t339 t340 t341 t342).bind fun t343 => (if t343 = true then ((withylaw03_Ref.f t307 t308 t309 t310).bind fun bt344 => ((withyref03_Right.f bt344.1 bt344.2.1 bt344.2.2.1 bt344.2.2.2).bind fun t348 => (if t348 = true then ((col_Compare.f k t303 t304 t305 t306 t307 t308 t309 t310).bind fun t349 => ((withylaw03_Ref.f t303 t304 t305 t306).bind fun bt350 => ((withylaw03_Ref.f t307 t308 t309 t310).bind fun bt354 => ((withyref03_Compare.f bt350.1 bt350.2.1 bt350.2.2.1 bt350.2.2.2 bt354.1 bt354.2.1 bt354.2.2.1 bt354.2.2.2).bind fun t358 => (withylaw03_ColTells.j0 k t311 t312 t317 t318 t323 t324 t330 t331 (t349 != t358) t319 t320 t321 t322 t326 t327 t328 t329))))) else (withylaw03_ColTells.j0 k t311 t312 t317 t318 t323 t324 t330 t331 false t319 t320 t321 t322 t326 t327 t328 t329)))) else (withylaw03_ColTells.j0 k t311 t312 t317 t318 t323 t324 t330 t331 false t319 t320 t321 t322 t326 t327 t328 t329))) = some r := H
  have A58 := Aside0.mk A580
  clear A580
  replace H := bM H
  obtain ⟨t343, A590, H⟩ := H
  replace H : (if t343 = true then ((withylaw03_Ref.f t307 t308 t309 t310).bind fun bt344 => ((withyref03_Right.f bt344.1 bt344.2.1 bt344.2.2.1 bt344.2.2.2).bind fun t348 => (if t348 = true then ((col_Compare.f k t303 t304 t305 t306 t307 t308 t309 t310).bind fun t349 => ((withylaw03_Ref.f t303 t304 t305 t306).bind fun bt350 => ((withylaw03_Ref.f t307 t308 t309 t310).bind fun bt354 => ((withyref03_Compare.f bt350.1 bt350.2.1 bt350.2.2.1 bt350.2.2.2 bt354.1 bt354.2.1 bt354.2.2.1 bt354.2.2.2).bind fun t358 => (withylaw03_ColTells.j0 k t311 t312 t317 t318 t323 t324 t330 t331 (t349 != t358) t319 t320 t321 t322 t326 t327 t328 t329))))) else (withylaw03_ColTells.j0 k t311 t312 t317 t318 t323 t324 t330 t331 false t319 t320 t321 t322 t326 t327 t328 t329)))) else (withylaw03_ColTells.j0 k t311 t312 t317 t318 t323 t324 t330 t331 false t319 t320 t321 t322 t326 t327 t328 t329)) = some r := H
  have A59 := Aside0.mk A590
  clear A590
  by_cases c60 : t343 = true
  rotate_left
  ·replace c60 := Bool.eq_false_iff.mpr c60
   subst c60
   have H1 : (withylaw03_ColTells.j0 k t311 t312 t317 t318 t323 t324 t330 t331 false t319 t320 t321 t322 t326 t327 t328 t329) = some r := by rw [if_neg (show ¬ (false = true) by decide)] at H; exact H
   clear H
   have H := H1
   clear H1
   have H' := Aside0.mk H
   clear H
   try go_wp2
   have n0_ : Aside0 (((((w43.setCell ⟨gb332, 0, none⟩ (.int .i64 t326)).setCell ⟨gb332, 1, none⟩ (.int .i64 t327)).setCell ⟨gb332, 2, none⟩ (.int .u64 t328)).setCell ⟨gb332, 3, none⟩ (.string t329)).heap[gb300]? = some (.cells #[.int .i64 t303, .int .i64 t304, .int .u64 t305, .string t306] 24 (0, 0))) := ⟨by refine bx ?_; refine blk_far ?_ NB300_332.out _; refine bx ?_; refine blk_far ?_ NB300_332.out _; refine bx ?_; refine blk_far ?_ NB300_332.out _; refine bx ?_; refine blk_far ?_ NB300_332.out _; refine bx ?_; exact BK300.out⟩
   have n1_ : Aside0 (((((w43.setCell ⟨gb332, 0, none⟩ (.int .i64 t326)).setCell ⟨gb332, 1, none⟩ (.int .i64 t327)).setCell ⟨gb332, 2, none⟩ (.int .u64 t328)).setCell ⟨gb332, 3, none⟩ (.string t329)).heap[gb301]? = some (.cells #[.int .i64 t307, .int .i64 t308, .int .u64 t309, .string t310] 24 (0, 0))) := ⟨by refine bx ?_; refine blk_far ?_ NB301_332.out _; refine bx ?_; refine blk_far ?_ NB301_332.out _; refine bx ?_; refine blk_far ?_ NB301_332.out _; refine bx ?_; refine blk_far ?_ NB301_332.out _; refine bx ?_; exact BK301.out⟩
   have n2_ : Aside0 (((((w43.setCell ⟨gb332, 0, none⟩ (.int .i64 t326)).setCell ⟨gb332, 1, none⟩ (.int .i64 t327)).setCell ⟨gb332, 2, none⟩ (.int .u64 t328)).setCell ⟨gb332, 3, none⟩ (.string t329)).heap[gb302]? = some (.cells #[.string a2_0, .int .i64 a2_1] 26 (0, 0))) := ⟨by refine bx ?_; refine blk_far ?_ NB302_332.out _; refine bx ?_; refine blk_far ?_ NB302_332.out _; refine bx ?_; refine blk_far ?_ NB302_332.out _; refine bx ?_; refine blk_far ?_ NB302_332.out _; refine bx ?_; exact BK302.out⟩
   have n3_ : Aside0 (((((w43.setCell ⟨gb332, 0, none⟩ (.int .i64 t326)).setCell ⟨gb332, 1, none⟩ (.int .i64 t327)).setCell ⟨gb332, 2, none⟩ (.int .u64 t328)).setCell ⟨gb332, 3, none⟩ (.string t329)).heap[gb325]? = some (.cells #[.int .i64 t319, .int .i64 t320, .int .u64 t321, .string t322] 24 (0, 0))) := ⟨by refine bx ?_; refine blk_far ?_ NB325_332.out _; refine bx ?_; refine blk_far ?_ NB325_332.out _; refine bx ?_; refine blk_far ?_ NB325_332.out _; refine bx ?_; refine blk_far ?_ NB325_332.out _; refine bx ?_; exact BK325.out⟩
   have n4_ : Aside0 (((((w43.setCell ⟨gb332, 0, none⟩ (.int .i64 t326)).setCell ⟨gb332, 1, none⟩ (.int .i64 t327)).setCell ⟨gb332, 2, none⟩ (.int .u64 t328)).setCell ⟨gb332, 3, none⟩ (.string t329)).heap[gb332]? = some (.cells #[.int .i64 t326, .int .i64 t327, .int .u64 t328, .string t329] 32 (0, 0))) := ⟨by refine bx ?_; refine blk_put (cs := #[.int .i64 t326, .int .i64 t327, .int .u64 t328, .string (⟨#[]⟩ : ByteArray)]) ?_ 3 _ rfl; refine bx ?_; refine blk_put (cs := #[.int .i64 t326, .int .i64 t327, .int .u64 0, .string (⟨#[]⟩ : ByteArray)]) ?_ 2 _ rfl; refine bx ?_; refine blk_put (cs := #[.int .i64 t326, .int .i64 0, .int .u64 0, .string (⟨#[]⟩ : ByteArray)]) ?_ 1 _ rfl; refine bx ?_; refine blk_put (cs := #[.int .i64 0, .int .i64 0, .int .u64 0, .string (⟨#[]⟩ : ByteArray)]) ?_ 0 _ rfl; refine bx ?_; exact BK332.out⟩
   have n5_ : Aside0 (Below w.heap.size w ((((w43.setCell ⟨gb332, 0, none⟩ (.int .i64 t326)).setCell ⟨gb332, 1, none⟩ (.int .i64 t327)).setCell ⟨gb332, 2, none⟩ (.int .u64 t328)).setCell ⟨gb332, 3, none⟩ (.string t329))) := ⟨by repeat (first | (with_reducible first | exact HB.out | apply below_alloc | apply pw_below_drewN | apply below_drew1 | refine below_set ?_ GE300.out | refine below_set ?_ GE301.out | refine below_set ?_ GE302.out | refine below_set ?_ GE325.out | refine below_set ?_ GE332.out) | exact HB.out)⟩
   (try clear BK300)
   (try clear BK301)
   (try clear BK302)
   (try clear BK325)
   (try clear BK332)
   (try clear HB)
   generalize ((((w43.setCell ⟨gb332, 0, none⟩ (.int .i64 t326)).setCell ⟨gb332, 1, none⟩ (.int .i64 t327)).setCell ⟨gb332, 2, none⟩ (.int .u64 t328)).setCell ⟨gb332, 3, none⟩ (.string t329)) = w90 at n0_ n1_ n2_ n3_ n4_ n5_ ⊢
   have BK300 := n0_
   have BK301 := n1_
   have BK302 := n2_
   have BK325 := n3_
   have BK332 := n4_
   have HB := n5_
   clear n0_ n1_ n2_ n3_ n4_ n5_
   replace BK300 := as_ (blk_drew BK300.out)
   replace BK301 := as_ (blk_drew BK301.out)
   replace BK302 := as_ (blk_drew BK302.out)
   replace BK325 := as_ (blk_drew BK325.out)
   replace BK332 := as_ (blk_drew BK332.out)
   replace HB := as_ (below_drew1 HB.out)
   refine start_ (n := 27) (S := fun w' => w'.cell? ⟨gb300, 0, none⟩ = some (.int .i64 t303) ∧ w'.cell? ⟨gb300, 1, none⟩ = some (.int .i64 t304) ∧ w'.cell? ⟨gb300, 2, none⟩ = some (.int .u64 t305) ∧ w'.cell? ⟨gb300, 3, none⟩ = some (.string t306)) (ds := []) #[ff, ff, ff, ff, ff, ff, ff, ff, ff, ff, ff, ff, ff, ff, ff, ff, ff, ff, ff, ff, ff, ff, ff, ff, ff, ff, ff] (by kernel_rfl) rfl rfl ⟨(blk_cell BK300.out 0).trans rfl, (blk_cell BK300.out 1).trans rfl, (blk_cell BK300.out 2).trans rfl, (blk_cell BK300.out 3).trans rfl⟩ (fun hHeld => ?_); refine with_tabW withylaw03_ColTells.tab8 withylaw03_ColTells.bits8 (fun HT_ HW_ => ?_)
   generalize w90.drew = w91 at BK300 BK301 BK302 BK325 BK332 HB hHeld ⊢
   refine take_ (i := 0) (N := some 56) (v := ?_) (a' := ?_) #[tt, ff, ff, ff, ff, ff, ff, ff, ff, ff, ff, ff, ff, ff, ff, ff, ff, ff, ff, ff, ff, ff, ff, ff, ff, ff, ff] rfl rfl (take_ofW HT_.out HW_.out (by kernel_rfl)) (fun _ _ _ h => h) (Or.inl ⟨by rfl, ?_⟩) hHeld ?_ ?_
   rotate_left
   ·rintro w' ⟨s0, s1, s2, s3⟩
    go_simp
    with_reducible rfl
   rotate_left
   ·exact aP
   refine take_ (i := 2) (N := some 58) (v := ?_) (a' := ?_) #[tt, ff, tt, ff, ff, ff, ff, ff, ff, ff, ff, ff, ff, ff, ff, ff, ff, ff, ff, ff, ff, ff, ff, ff, ff, ff, ff] rfl rfl (take_ofW HT_.out HW_.out (by kernel_rfl)) (fun _ _ _ h => h) (Or.inl ⟨by rfl, ?_⟩) hHeld ?_ ?_
   rotate_left
   ·rintro w' ⟨s0, s1, s2, s3⟩
    go_simp
    with_reducible rfl
   rotate_left
   ·exact aP
   refine one_ (i := 1) (N := some 57) #[tt, tt, tt, ff, ff, ff, ff, ff, ff, ff, ff, ff, ff, ff, ff, ff, ff, ff, ff, ff, ff, ff, ff, ff, ff, ff, ff] rfl rfl (one_of HT_.out (by kernel_rfl)) (by decide) (fun K hK => ?_)
   refine goes_ Tryd.func15 (by kernel_rfl) rfl #[.agg #[.int .i64 t303, .int .i64 t304, .int .u64 t305, .string t306]] (by rfl) rfl rfl aO ?_
   with_reducible refine (col_Right.calls k t303 t304 t305 t306 t333 _ A49.out).mono ?_
   rintro e w92 ⟨rfl, hb⟩
   refine ⟨_, rfl, ?_⟩
   replace BK300 := bb BK300 hb
   replace BK301 := bb BK301 hb
   replace BK302 := bb BK302 hb
   replace BK325 := bb BK325 hb
   replace BK332 := bb BK332 hb
   replace HB := as_ (below_step bA hb)
   (try clear hb)
   (try clear hb2)
   (try clear hk)
   (try clear hi)
   refine hK.out _ _ ⟨(blk_cell BK300.out 0).trans rfl, (blk_cell BK300.out 1).trans rfl, (blk_cell BK300.out 2).trans rfl, (blk_cell BK300.out 3).trans rfl⟩ (fun hHeld => ?_)
   clear hK K
   refine norm_ (a' := ?_) ?_ ?_
   rotate_left
   ·show Act.put _ (some 57) _ = _
    simp only [Act.put, List.setIfInBounds_toArray, List.set_cons_zero, List.set_cons_succ, i64_w, i32_w]
    rfl
   refine one_ (i := 3) (N := some 59) #[tt, tt, tt, tt, ff, ff, ff, ff, ff, ff, ff, ff, ff, ff, ff, ff, ff, ff, ff, ff, ff, ff, ff, ff, ff, ff, ff] rfl rfl (one_of HT_.out (by kernel_rfl)) (by decide) (fun K hK => ?_)
   refine goes_ Tryd.func12 (by kernel_rfl) rfl #[.agg #[.int .i64 t303, .int .i64 t304, .int .u64 t305, .string t306]] (by rfl) rfl rfl aO ?_
   with_reducible refine (withylaw03_Ref.calls t303 t304 t305 t306 t334 t335 t336 t337 _ A50.out).mono ?_
   rintro e w93 ⟨rfl, hb⟩
   refine ⟨_, rfl, ?_⟩
   replace BK300 := bb BK300 hb
   replace BK301 := bb BK301 hb
   replace BK302 := bb BK302 hb
   replace BK325 := bb BK325 hb
   replace BK332 := bb BK332 hb
   replace HB := as_ (below_step bA hb)
   (try clear hb)
   (try clear hb2)
   (try clear hk)
   (try clear hi)
   refine hK.out _ _ ⟨(blk_cell BK300.out 0).trans rfl, (blk_cell BK300.out 1).trans rfl, (blk_cell BK300.out 2).trans rfl, (blk_cell BK300.out 3).trans rfl⟩ (fun hHeld => ?_)
   clear hK K
   refine norm_ (a' := ?_) ?_ ?_
   rotate_left
   ·show Act.put _ (some 59) _ = _
    simp only [Act.put, List.setIfInBounds_toArray, List.set_cons_zero, List.set_cons_succ, i64_w, i32_w]
    rfl
   refine one_ (i := 4) (N := some 60) #[tt, tt, tt, tt, tt, ff, ff, ff, ff, ff, ff, ff, ff, ff, ff, ff, ff, ff, ff, ff, ff, ff, ff, ff, ff, ff, ff] rfl rfl (one_of HT_.out (by kernel_rfl)) (by decide) (fun K hK => ?_)
   refine goes_ Tryd.func16 (by kernel_rfl) rfl #[.agg #[.int .i64 t334, .int .i64 t335, .int .u64 t336, .string t337]] (by rfl) rfl rfl aO ?_
   with_reducible refine (withyref03_Right.calls t334 t335 t336 t337 t338 _ A51.out).mono ?_
   rintro e w94 ⟨rfl, hb⟩
   refine ⟨_, rfl, ?_⟩
   replace BK300 := bb BK300 hb
   replace BK301 := bb BK301 hb
   replace BK302 := bb BK302 hb
   replace BK325 := bb BK325 hb
   replace BK332 := bb BK332 hb
   replace HB := as_ (below_step bA hb)
   (try clear hb)
   (try clear hb2)
   (try clear hk)
   (try clear hi)
   refine hK.out _ _ ⟨(blk_cell BK300.out 0).trans rfl, (blk_cell BK300.out 1).trans rfl, (blk_cell BK300.out 2).trans rfl, (blk_cell BK300.out 3).trans rfl⟩ (fun hHeld => ?_)
   clear hK K
   refine norm_ (a' := ?_) ?_ ?_
   rotate_left
   ·show Act.put _ (some 60) _ = _
    simp only [Act.put, List.setIfInBounds_toArray, List.set_cons_zero, List.set_cons_succ, i64_w, i32_w]
    rfl
   refine pure_ (i := 5) (N := some 61) (v := ?_) (a' := ?_) #[tt, tt, tt, tt, tt, tt, ff, ff, ff, ff, ff, ff, ff, ff, ff, ff, ff, ff, ff, ff, ff, ff, ff, ff, ff, ff, ff] rfl rfl (any_of HT_.out (by kernel_rfl)) (fun _ _ _ h => h) (Or.inl ⟨by rfl, ?_⟩) ?_ ?_
   rotate_left
   ·intro w'
    go_simp
    with_reducible rfl
   rotate_left
   ·exact aP
   refine pure_ (i := 6) (N := some 62) (v := ?_) (a' := ?_) #[tt, tt, tt, tt, tt, tt, tt, ff, ff, ff, ff, ff, ff, ff, ff, ff, ff, ff, ff, ff, ff, ff, ff, ff, ff, ff, ff] rfl rfl (any_of HT_.out (by kernel_rfl)) (fun _ _ _ h => h) (Or.inl ⟨by rfl, ?_⟩) ?_ ?_
   rotate_left
   ·intro w'
    go_simp
    with_reducible rfl
   rotate_left
   ·exact aP
   refine take_ (i := 7) (N := some 63) (v := ?_) (a' := ?_) #[tt, tt, tt, tt, tt, tt, tt, tt, ff, ff, ff, ff, ff, ff, ff, ff, ff, ff, ff, ff, ff, ff, ff, ff, ff, ff, ff] rfl rfl (take_ofW HT_.out HW_.out (by kernel_rfl)) (fun _ _ _ h => h) (Or.inl ⟨by rfl, ?_⟩) hHeld ?_ ?_
   rotate_left
   ·rintro w' ⟨s0, s1, s2, s3⟩
    go_simp
    with_reducible rfl
   rotate_left
   ·exact aP
   refine one_ (i := 8) (N := some 64) #[tt, tt, tt, tt, tt, tt, tt, tt, tt, ff, ff, ff, ff, ff, ff, ff, ff, ff, ff, ff, ff, ff, ff, ff, ff, ff, ff] rfl rfl (one_of HT_.out (by kernel_rfl)) (by decide) (fun K hK => ?_)
   refine goes_ Tryd.func12 (by kernel_rfl) rfl #[.agg #[.int .i64 t303, .int .i64 t304, .int .u64 t305, .string t306]] (by rfl) rfl rfl aO ?_
   with_reducible refine (withylaw03_Ref.calls t303 t304 t305 t306 t339 t340 t341 t342 _ A58.out).mono ?_
   rintro e w95 ⟨rfl, hb⟩
   refine ⟨_, rfl, ?_⟩
   replace BK300 := bb BK300 hb
   replace BK301 := bb BK301 hb
   replace BK302 := bb BK302 hb
   replace BK325 := bb BK325 hb
   replace BK332 := bb BK332 hb
   replace HB := as_ (below_step bA hb)
   (try clear hb)
   (try clear hb2)
   (try clear hk)
   (try clear hi)
   refine hK.out _ _ ⟨(blk_cell BK300.out 0).trans rfl, (blk_cell BK300.out 1).trans rfl, (blk_cell BK300.out 2).trans rfl, (blk_cell BK300.out 3).trans rfl⟩ (fun hHeld => ?_)
   clear hK K
   refine norm_ (a' := ?_) ?_ ?_
   rotate_left
   ·show Act.put _ (some 64) _ = _
    simp only [Act.put, List.setIfInBounds_toArray, List.set_cons_zero, List.set_cons_succ, i64_w, i32_w]
    rfl
   refine one_ (i := 9) (N := some 65) #[tt, tt, tt, tt, tt, tt, tt, tt, tt, tt, ff, ff, ff, ff, ff, ff, ff, ff, ff, ff, ff, ff, ff, ff, ff, ff, ff] rfl rfl (one_of HT_.out (by kernel_rfl)) (by decide) (fun K hK => ?_)
   refine goes_ Tryd.func16 (by kernel_rfl) rfl #[.agg #[.int .i64 t339, .int .i64 t340, .int .u64 t341, .string t342]] (by rfl) rfl rfl aO ?_
   with_reducible refine (withyref03_Right.calls t339 t340 t341 t342 false _ A59.out).mono ?_
   rintro e w96 ⟨rfl, hb⟩
   refine ⟨_, rfl, ?_⟩
   replace BK300 := bb BK300 hb
   replace BK301 := bb BK301 hb
   replace BK302 := bb BK302 hb
   replace BK325 := bb BK325 hb
   replace BK332 := bb BK332 hb
   replace HB := as_ (below_step bA hb)
   (try clear hb)
   (try clear hb2)
   (try clear hk)
   (try clear hi)
   refine hK.out _ _ ⟨(blk_cell BK300.out 0).trans rfl, (blk_cell BK300.out 1).trans rfl, (blk_cell BK300.out 2).trans rfl, (blk_cell BK300.out 3).trans rfl⟩ (fun hHeld => ?_)
   clear hK K
   refine norm_ (a' := ?_) ?_ ?_
   rotate_left
   ·show Act.put _ (some 65) _ = _
    simp only [Act.put, List.setIfInBounds_toArray, List.set_cons_zero, List.set_cons_succ, i64_w, i32_w]
    rfl
   refine pure_ (i := 10) (N := some 66) (v := ?_) (a' := ?_) #[tt, tt, tt, tt, tt, tt, tt, tt, tt, tt, tt, ff, ff, ff, ff, ff, ff, ff, ff, ff, ff, ff, ff, ff, ff, ff, ff] rfl rfl (any_of HT_.out (by kernel_rfl)) (fun _ _ _ h => h) (Or.inl ⟨by rfl, ?_⟩) ?_ ?_
   rotate_left
   ·intro w'
    go_simp
    with_reducible rfl
   rotate_left
   ·exact aP
   refine pure_ (i := 11) (N := some 67) (v := undef) (a' := ?_) #[tt, tt, tt, tt, tt, tt, tt, tt, tt, tt, tt, tt, ff, ff, ff, ff, ff, ff, ff, ff, ff, ff, ff, ff, ff, ff, ff] rfl rfl (any_of HT_.out (by kernel_rfl)) (fun _ _ _ h => h) (Or.inr ⟨by rfl, rfl⟩) ?_ ?_
   rotate_left
   ·exact aP
   refine pure_ (i := 12) (N := some 68) (v := undef) (a' := ?_) #[tt, tt, tt, tt, tt, tt, tt, tt, tt, tt, tt, tt, tt, ff, ff, ff, ff, ff, ff, ff, ff, ff, ff, ff, ff, ff, ff] rfl rfl (any_of HT_.out (by kernel_rfl)) (fun _ _ _ h => h) (Or.inr ⟨by rfl, rfl⟩) ?_ ?_
   rotate_left
   ·exact aP
   refine pure_ (i := 13) (N := some 69) (v := undef) (a' := ?_) #[tt, tt, tt, tt, tt, tt, tt, tt, tt, tt, tt, tt, tt, tt, ff, ff, ff, ff, ff, ff, ff, ff, ff, ff, ff, ff, ff] rfl rfl (any_of HT_.out (by kernel_rfl)) (fun _ _ _ h => h) (Or.inr ⟨by rfl, rfl⟩) ?_ ?_
   rotate_left
   ·exact aP
   refine pure_ (i := 14) (N := some 70) (v := ?_) (a' := ?_) #[tt, tt, tt, tt, tt, tt, tt, tt, tt, tt, tt, tt, tt, tt, tt, ff, ff, ff, ff, ff, ff, ff, ff, ff, ff, ff, ff] rfl rfl (any_of HT_.out (by kernel_rfl)) (fun _ _ _ h => h) (Or.inl ⟨by rfl, ?_⟩) ?_ ?_
   rotate_left
   ·intro w'
    go_simp
    with_reducible rfl
   rotate_left
   ·exact aP
   refine pure_ (i := 15) (N := some 71) (v := ?_) (a' := ?_) #[tt, tt, tt, tt, tt, tt, tt, tt, tt, tt, tt, tt, tt, tt, tt, tt, ff, ff, ff, ff, ff, ff, ff, ff, ff, ff, ff] rfl rfl (any_of HT_.out (by kernel_rfl)) (fun _ _ _ h => h) (Or.inl ⟨by rfl, ?_⟩) ?_ ?_
   rotate_left
   ·intro w'
    go_simp
    with_reducible rfl
   rotate_left
   ·exact aP
   refine pure_ (i := 16) (N := some 72) (v := undef) (a' := ?_) #[tt, tt, tt, tt, tt, tt, tt, tt, tt, tt, tt, tt, tt, tt, tt, tt, tt, ff, ff, ff, ff, ff, ff, ff, ff, ff, ff] rfl rfl (any_of HT_.out (by kernel_rfl)) (fun _ _ _ h => h) (Or.inr ⟨by rfl, rfl⟩) ?_ ?_
   rotate_left
   ·exact aP
   refine pure_ (i := 17) (N := some 73) (v := undef) (a' := ?_) #[tt, tt, tt, tt, tt, tt, tt, tt, tt, tt, tt, tt, tt, tt, tt, tt, tt, tt, ff, ff, ff, ff, ff, ff, ff, ff, ff] rfl rfl (any_of HT_.out (by kernel_rfl)) (fun _ _ _ h => h) (Or.inr ⟨by rfl, rfl⟩) ?_ ?_
   rotate_left
   ·exact aP
   refine pure_ (i := 18) (N := some 74) (v := undef) (a' := ?_) #[tt, tt, tt, tt, tt, tt, tt, tt, tt, tt, tt, tt, tt, tt, tt, tt, tt, tt, tt, ff, ff, ff, ff, ff, ff, ff, ff] rfl rfl (any_of HT_.out (by kernel_rfl)) (fun _ _ _ h => h) (Or.inr ⟨by rfl, rfl⟩) ?_ ?_
   rotate_left
   ·exact aP
   refine pure_ (i := 19) (N := some 75) (v := undef) (a' := ?_) #[tt, tt, tt, tt, tt, tt, tt, tt, tt, tt, tt, tt, tt, tt, tt, tt, tt, tt, tt, tt, ff, ff, ff, ff, ff, ff, ff] rfl rfl (any_of HT_.out (by kernel_rfl)) (fun _ _ _ h => h) (Or.inr ⟨by rfl, rfl⟩) ?_ ?_
   rotate_left
   ·exact aP
   refine pure_ (i := 20) (N := some 76) (v := undef) (a' := ?_) #[tt, tt, tt, tt, tt, tt, tt, tt, tt, tt, tt, tt, tt, tt, tt, tt, tt, tt, tt, tt, tt, ff, ff, ff, ff, ff, ff] rfl rfl (any_of HT_.out (by kernel_rfl)) (fun _ _ _ h => h) (Or.inr ⟨by rfl, rfl⟩) ?_ ?_
   rotate_left
   ·exact aP
   refine pure_ (i := 21) (N := some 77) (v := undef) (a' := ?_) #[tt, tt, tt, tt, tt, tt, tt, tt, tt, tt, tt, tt, tt, tt, tt, tt, tt, tt, tt, tt, tt, tt, ff, ff, ff, ff, ff] rfl rfl (any_of HT_.out (by kernel_rfl)) (fun _ _ _ h => h) (Or.inr ⟨by rfl, rfl⟩) ?_ ?_
   rotate_left
   ·exact aP
   refine pure_ (i := 22) (N := some 78) (v := undef) (a' := ?_) #[tt, tt, tt, tt, tt, tt, tt, tt, tt, tt, tt, tt, tt, tt, tt, tt, tt, tt, tt, tt, tt, tt, tt, ff, ff, ff, ff] rfl rfl (any_of HT_.out (by kernel_rfl)) (fun _ _ _ h => h) (Or.inr ⟨by rfl, rfl⟩) ?_ ?_
   rotate_left
   ·exact aP
   refine pure_ (i := 23) (N := some 79) (v := undef) (a' := ?_) #[tt, tt, tt, tt, tt, tt, tt, tt, tt, tt, tt, tt, tt, tt, tt, tt, tt, tt, tt, tt, tt, tt, tt, tt, ff, ff, ff] rfl rfl (any_of HT_.out (by kernel_rfl)) (fun _ _ _ h => h) (Or.inr ⟨by rfl, rfl⟩) ?_ ?_
   rotate_left
   ·exact aP
   refine pure_ (i := 24) (N := some 80) (v := undef) (a' := ?_) #[tt, tt, tt, tt, tt, tt, tt, tt, tt, tt, tt, tt, tt, tt, tt, tt, tt, tt, tt, tt, tt, tt, tt, tt, tt, ff, ff] rfl rfl (any_of HT_.out (by kernel_rfl)) (fun _ _ _ h => h) (Or.inr ⟨by rfl, rfl⟩) ?_ ?_
   rotate_left
   ·exact aP
   refine pure_ (i := 25) (N := some 81) (v := ?_) (a' := ?_) #[tt, tt, tt, tt, tt, tt, tt, tt, tt, tt, tt, tt, tt, tt, tt, tt, tt, tt, tt, tt, tt, tt, tt, tt, tt, tt, ff] rfl rfl (any_of HT_.out (by kernel_rfl)) (fun _ _ _ h => h) (Or.inl ⟨by rfl, ?_⟩) ?_ ?_
   rotate_left
   ·intro w'
    go_simp
    with_reducible rfl
   rotate_left
   ·exact aP
   refine pure_ (i := 26) (N := some 82) (v := ?_) (a' := ?_) #[tt, tt, tt, tt, tt, tt, tt, tt, tt, tt, tt, tt, tt, tt, tt, tt, tt, tt, tt, tt, tt, tt, tt, tt, tt, tt, tt] rfl rfl (any_of HT_.out (by kernel_rfl)) (fun _ _ _ h => h) (Or.inl ⟨by rfl, ?_⟩) ?_ ?_
   rotate_left
   ·intro w'
    go_simp
    with_reducible rfl
   rotate_left
   ·exact aP
   refine done_ (done_of HT_.out (by kernel_rfl)) ?_
   try go_wp2
   go_meet
   case rel => exact ⟨_, (false), (by first | rfl | (simp; done) | (simp [*]; done)), H', ⟨by first | omega | exact Nat.le_refl _⟩, ⟨by refine bx ?_; exact BK300.out⟩, ⟨by refine bx ?_; exact BK301.out⟩, ⟨by refine bx ?_; exact BK302.out⟩, ⟨by refine bx ?_; exact BK325.out⟩, ⟨by refine bx ?_; exact BK332.out⟩, ⟨by repeat (first | (with_reducible first | exact HB.out | apply below_alloc | apply pw_below_drewN | apply below_drew1 | refine below_set ?_ GE300.out | refine below_set ?_ GE301.out | refine below_set ?_ GE302.out | refine below_set ?_ GE325.out | refine below_set ?_ GE332.out) | exact HB.out)⟩⟩
  subst c60
  have H1 : ((withylaw03_Ref.f t307 t308 t309 t310).bind fun bt344 => ((withyref03_Right.f bt344.1 bt344.2.1 bt344.2.2.1 bt344.2.2.2).bind fun t348 => (if t348 = true then ((col_Compare.f k t303 t304 t305 t306 t307 t308 t309 t310).bind fun t349 => ((withylaw03_Ref.f t303 t304 t305 t306).bind fun bt350 => ((withylaw03_Ref.f t307 t308 t309 t310).bind fun bt354 => ((withyref03_Compare.f bt350.1 bt350.2.1 bt350.2.2.1 bt350.2.2.2 bt354.1 bt354.2.1 bt354.2.2.1 bt354.2.2.2).bind fun t358 => (withylaw03_ColTells.j0 k t311 t312 t317 t318 t323 t324 t330 t331 (t349 != t358) t319 t320 t321 t322 t326 t327 t328 t329))))) else (withylaw03_ColTells.j0 k t311 t312 t317 t318 t323 t324 t330 t331 false t319 t320 t321 t322 t326 t327 t328 t329)))) = some r := by rw [if_pos rfl] at H; exact H
  clear H
  have H := H1
  clear H1
  replace H := bM H
  obtain ⟨⟨t344, t345, t346, t347⟩, A610, H⟩ := H
  replace H : ((withyref03_Right.f t344 t345 t346 t347).bind fun t348 => (if t348 = true then ((col_Compare.f k t303 t304 t305 t306 t307 t308 t309 t310).bind fun t349 => ((withylaw03_Ref.f t303 t304 t305 t306).bind fun bt350 => ((withylaw03_Ref.f t307 t308 t309 t310).bind fun bt354 => ((withyref03_Compare.f bt350.1 bt350.2.1 bt350.2.2.1 bt350.2.2.2 bt354.1 bt354.2.1 bt354.2.2.1 bt354.2.2.2).bind fun t358 => (withylaw03_ColTells.j0 k t311 t312 t317 t318 t323 t324 t330 t331 (t349 != t358) t319 t320 t321 t322 t326 t327 t328 t329))))) else (withylaw03_ColTells.j0 k t311 t312 t317 t318 t323 t324 t330 t331 false t319 t320 t321 t322 t326 t327 t328 t329))) = some r := H
  have A61 := Aside0.mk A610
  clear A610
  replace H := bM H
  obtain ⟨t348, A620, H⟩ := H
  replace H : (if t348 = true then ((col_Compare.f k t303 t304 t305 t306 t307 t308 t309 t310).bind fun t349 => ((withylaw03_Ref.f t303 t304 t305 t306).bind fun bt350 => ((withylaw03_Ref.f t307 t308 t309 t310).bind fun bt354 => ((withyref03_Compare.f bt350.1 bt350.2.1 bt350.2.2.1 bt350.2.2.2 bt354.1 bt354.2.1 bt354.2.2.1 bt354.2.2.2).bind fun t358 => (withylaw03_ColTells.j0 k t311 t312 t317 t318 t323 t324 t330 t331 (t349 != t358) t319 t320 t321 t322 t326 t327 t328 t329))))) else (withylaw03_ColTells.j0 k t311 t312 t317 t318 t323 t324 t330 t331 false t319 t320 t321 t322 t326 t327 t328 t329)) = some r := H
  have A62 := Aside0.mk A620
  clear A620
  by_cases c63 : t348 = true
  rotate_left
  ·replace c63 := Bool.eq_false_iff.mpr c63
   subst c63
   have H1 : (withylaw03_ColTells.j0 k t311 t312 t317 t318 t323 t324 t330 t331 false t319 t320 t321 t322 t326 t327 t328 t329) = some r := by rw [if_neg (show ¬ (false = true) by decide)] at H; exact H
   clear H
   have H := H1
   clear H1
   have H' := Aside0.mk H
   clear H
   try go_wp2
   have n0_ : Aside0 (((((w43.setCell ⟨gb332, 0, none⟩ (.int .i64 t326)).setCell ⟨gb332, 1, none⟩ (.int .i64 t327)).setCell ⟨gb332, 2, none⟩ (.int .u64 t328)).setCell ⟨gb332, 3, none⟩ (.string t329)).heap[gb300]? = some (.cells #[.int .i64 t303, .int .i64 t304, .int .u64 t305, .string t306] 24 (0, 0))) := ⟨by refine bx ?_; refine blk_far ?_ NB300_332.out _; refine bx ?_; refine blk_far ?_ NB300_332.out _; refine bx ?_; refine blk_far ?_ NB300_332.out _; refine bx ?_; refine blk_far ?_ NB300_332.out _; refine bx ?_; exact BK300.out⟩
   have n1_ : Aside0 (((((w43.setCell ⟨gb332, 0, none⟩ (.int .i64 t326)).setCell ⟨gb332, 1, none⟩ (.int .i64 t327)).setCell ⟨gb332, 2, none⟩ (.int .u64 t328)).setCell ⟨gb332, 3, none⟩ (.string t329)).heap[gb301]? = some (.cells #[.int .i64 t307, .int .i64 t308, .int .u64 t309, .string t310] 24 (0, 0))) := ⟨by refine bx ?_; refine blk_far ?_ NB301_332.out _; refine bx ?_; refine blk_far ?_ NB301_332.out _; refine bx ?_; refine blk_far ?_ NB301_332.out _; refine bx ?_; refine blk_far ?_ NB301_332.out _; refine bx ?_; exact BK301.out⟩
   have n2_ : Aside0 (((((w43.setCell ⟨gb332, 0, none⟩ (.int .i64 t326)).setCell ⟨gb332, 1, none⟩ (.int .i64 t327)).setCell ⟨gb332, 2, none⟩ (.int .u64 t328)).setCell ⟨gb332, 3, none⟩ (.string t329)).heap[gb302]? = some (.cells #[.string a2_0, .int .i64 a2_1] 26 (0, 0))) := ⟨by refine bx ?_; refine blk_far ?_ NB302_332.out _; refine bx ?_; refine blk_far ?_ NB302_332.out _; refine bx ?_; refine blk_far ?_ NB302_332.out _; refine bx ?_; refine blk_far ?_ NB302_332.out _; refine bx ?_; exact BK302.out⟩
   have n3_ : Aside0 (((((w43.setCell ⟨gb332, 0, none⟩ (.int .i64 t326)).setCell ⟨gb332, 1, none⟩ (.int .i64 t327)).setCell ⟨gb332, 2, none⟩ (.int .u64 t328)).setCell ⟨gb332, 3, none⟩ (.string t329)).heap[gb325]? = some (.cells #[.int .i64 t319, .int .i64 t320, .int .u64 t321, .string t322] 24 (0, 0))) := ⟨by refine bx ?_; refine blk_far ?_ NB325_332.out _; refine bx ?_; refine blk_far ?_ NB325_332.out _; refine bx ?_; refine blk_far ?_ NB325_332.out _; refine bx ?_; refine blk_far ?_ NB325_332.out _; refine bx ?_; exact BK325.out⟩
   have n4_ : Aside0 (((((w43.setCell ⟨gb332, 0, none⟩ (.int .i64 t326)).setCell ⟨gb332, 1, none⟩ (.int .i64 t327)).setCell ⟨gb332, 2, none⟩ (.int .u64 t328)).setCell ⟨gb332, 3, none⟩ (.string t329)).heap[gb332]? = some (.cells #[.int .i64 t326, .int .i64 t327, .int .u64 t328, .string t329] 32 (0, 0))) := ⟨by refine bx ?_; refine blk_put (cs := #[.int .i64 t326, .int .i64 t327, .int .u64 t328, .string (⟨#[]⟩ : ByteArray)]) ?_ 3 _ rfl; refine bx ?_; refine blk_put (cs := #[.int .i64 t326, .int .i64 t327, .int .u64 0, .string (⟨#[]⟩ : ByteArray)]) ?_ 2 _ rfl; refine bx ?_; refine blk_put (cs := #[.int .i64 t326, .int .i64 0, .int .u64 0, .string (⟨#[]⟩ : ByteArray)]) ?_ 1 _ rfl; refine bx ?_; refine blk_put (cs := #[.int .i64 0, .int .i64 0, .int .u64 0, .string (⟨#[]⟩ : ByteArray)]) ?_ 0 _ rfl; refine bx ?_; exact BK332.out⟩
   have n5_ : Aside0 (Below w.heap.size w ((((w43.setCell ⟨gb332, 0, none⟩ (.int .i64 t326)).setCell ⟨gb332, 1, none⟩ (.int .i64 t327)).setCell ⟨gb332, 2, none⟩ (.int .u64 t328)).setCell ⟨gb332, 3, none⟩ (.string t329))) := ⟨by repeat (first | (with_reducible first | exact HB.out | apply below_alloc | apply pw_below_drewN | apply below_drew1 | refine below_set ?_ GE300.out | refine below_set ?_ GE301.out | refine below_set ?_ GE302.out | refine below_set ?_ GE325.out | refine below_set ?_ GE332.out) | exact HB.out)⟩
   (try clear BK300)
   (try clear BK301)
   (try clear BK302)
   (try clear BK325)
   (try clear BK332)
   (try clear HB)
   generalize ((((w43.setCell ⟨gb332, 0, none⟩ (.int .i64 t326)).setCell ⟨gb332, 1, none⟩ (.int .i64 t327)).setCell ⟨gb332, 2, none⟩ (.int .u64 t328)).setCell ⟨gb332, 3, none⟩ (.string t329)) = w81 at n0_ n1_ n2_ n3_ n4_ n5_ ⊢
   have BK300 := n0_
   have BK301 := n1_
   have BK302 := n2_
   have BK325 := n3_
   have BK332 := n4_
   have HB := n5_
   clear n0_ n1_ n2_ n3_ n4_ n5_
   replace BK300 := as_ (blk_drew BK300.out)
   replace BK301 := as_ (blk_drew BK301.out)
   replace BK302 := as_ (blk_drew BK302.out)
   replace BK325 := as_ (blk_drew BK325.out)
   replace BK332 := as_ (blk_drew BK332.out)
   replace HB := as_ (below_drew1 HB.out)
   refine start_ (n := 27) (S := fun w' => w'.cell? ⟨gb300, 0, none⟩ = some (.int .i64 t303) ∧ w'.cell? ⟨gb300, 1, none⟩ = some (.int .i64 t304) ∧ w'.cell? ⟨gb300, 2, none⟩ = some (.int .u64 t305) ∧ w'.cell? ⟨gb300, 3, none⟩ = some (.string t306) ∧ w'.cell? ⟨gb301, 0, none⟩ = some (.int .i64 t307) ∧ w'.cell? ⟨gb301, 1, none⟩ = some (.int .i64 t308) ∧ w'.cell? ⟨gb301, 2, none⟩ = some (.int .u64 t309) ∧ w'.cell? ⟨gb301, 3, none⟩ = some (.string t310)) (ds := []) #[ff, ff, ff, ff, ff, ff, ff, ff, ff, ff, ff, ff, ff, ff, ff, ff, ff, ff, ff, ff, ff, ff, ff, ff, ff, ff, ff] (by kernel_rfl) rfl rfl ⟨(blk_cell BK300.out 0).trans rfl, (blk_cell BK300.out 1).trans rfl, (blk_cell BK300.out 2).trans rfl, (blk_cell BK300.out 3).trans rfl, (blk_cell BK301.out 0).trans rfl, (blk_cell BK301.out 1).trans rfl, (blk_cell BK301.out 2).trans rfl, (blk_cell BK301.out 3).trans rfl⟩ (fun hHeld => ?_); refine with_tabW withylaw03_ColTells.tab8 withylaw03_ColTells.bits8 (fun HT_ HW_ => ?_)
   generalize w81.drew = w82 at BK300 BK301 BK302 BK325 BK332 HB hHeld ⊢
   refine take_ (i := 0) (N := some 56) (v := ?_) (a' := ?_) #[tt, ff, ff, ff, ff, ff, ff, ff, ff, ff, ff, ff, ff, ff, ff, ff, ff, ff, ff, ff, ff, ff, ff, ff, ff, ff, ff] rfl rfl (take_ofW HT_.out HW_.out (by kernel_rfl)) (fun _ _ _ h => h) (Or.inl ⟨by rfl, ?_⟩) hHeld ?_ ?_
   rotate_left
   ·rintro w' ⟨s0, s1, s2, s3, s4, s5, s6, s7⟩
    go_simp
    with_reducible rfl
   rotate_left
   ·exact aP
   refine take_ (i := 2) (N := some 58) (v := ?_) (a' := ?_) #[tt, ff, tt, ff, ff, ff, ff, ff, ff, ff, ff, ff, ff, ff, ff, ff, ff, ff, ff, ff, ff, ff, ff, ff, ff, ff, ff] rfl rfl (take_ofW HT_.out HW_.out (by kernel_rfl)) (fun _ _ _ h => h) (Or.inl ⟨by rfl, ?_⟩) hHeld ?_ ?_
   rotate_left
   ·rintro w' ⟨s0, s1, s2, s3, s4, s5, s6, s7⟩
    go_simp
    with_reducible rfl
   rotate_left
   ·exact aP
   refine one_ (i := 1) (N := some 57) #[tt, tt, tt, ff, ff, ff, ff, ff, ff, ff, ff, ff, ff, ff, ff, ff, ff, ff, ff, ff, ff, ff, ff, ff, ff, ff, ff] rfl rfl (one_of HT_.out (by kernel_rfl)) (by decide) (fun K hK => ?_)
   refine goes_ Tryd.func15 (by kernel_rfl) rfl #[.agg #[.int .i64 t303, .int .i64 t304, .int .u64 t305, .string t306]] (by rfl) rfl rfl aO ?_
   with_reducible refine (col_Right.calls k t303 t304 t305 t306 t333 _ A49.out).mono ?_
   rintro e w83 ⟨rfl, hb⟩
   refine ⟨_, rfl, ?_⟩
   replace BK300 := bb BK300 hb
   replace BK301 := bb BK301 hb
   replace BK302 := bb BK302 hb
   replace BK325 := bb BK325 hb
   replace BK332 := bb BK332 hb
   replace HB := as_ (below_step bA hb)
   (try clear hb)
   (try clear hb2)
   (try clear hk)
   (try clear hi)
   refine hK.out _ _ ⟨(blk_cell BK300.out 0).trans rfl, (blk_cell BK300.out 1).trans rfl, (blk_cell BK300.out 2).trans rfl, (blk_cell BK300.out 3).trans rfl, (blk_cell BK301.out 0).trans rfl, (blk_cell BK301.out 1).trans rfl, (blk_cell BK301.out 2).trans rfl, (blk_cell BK301.out 3).trans rfl⟩ (fun hHeld => ?_)
   clear hK K
   refine norm_ (a' := ?_) ?_ ?_
   rotate_left
   ·show Act.put _ (some 57) _ = _
    simp only [Act.put, List.setIfInBounds_toArray, List.set_cons_zero, List.set_cons_succ, i64_w, i32_w]
    rfl
   refine one_ (i := 3) (N := some 59) #[tt, tt, tt, tt, ff, ff, ff, ff, ff, ff, ff, ff, ff, ff, ff, ff, ff, ff, ff, ff, ff, ff, ff, ff, ff, ff, ff] rfl rfl (one_of HT_.out (by kernel_rfl)) (by decide) (fun K hK => ?_)
   refine goes_ Tryd.func12 (by kernel_rfl) rfl #[.agg #[.int .i64 t303, .int .i64 t304, .int .u64 t305, .string t306]] (by rfl) rfl rfl aO ?_
   with_reducible refine (withylaw03_Ref.calls t303 t304 t305 t306 t334 t335 t336 t337 _ A50.out).mono ?_
   rintro e w84 ⟨rfl, hb⟩
   refine ⟨_, rfl, ?_⟩
   replace BK300 := bb BK300 hb
   replace BK301 := bb BK301 hb
   replace BK302 := bb BK302 hb
   replace BK325 := bb BK325 hb
   replace BK332 := bb BK332 hb
   replace HB := as_ (below_step bA hb)
   (try clear hb)
   (try clear hb2)
   (try clear hk)
   (try clear hi)
   refine hK.out _ _ ⟨(blk_cell BK300.out 0).trans rfl, (blk_cell BK300.out 1).trans rfl, (blk_cell BK300.out 2).trans rfl, (blk_cell BK300.out 3).trans rfl, (blk_cell BK301.out 0).trans rfl, (blk_cell BK301.out 1).trans rfl, (blk_cell BK301.out 2).trans rfl, (blk_cell BK301.out 3).trans rfl⟩ (fun hHeld => ?_)
   clear hK K
   refine norm_ (a' := ?_) ?_ ?_
   rotate_left
   ·show Act.put _ (some 59) _ = _
    simp only [Act.put, List.setIfInBounds_toArray, List.set_cons_zero, List.set_cons_succ, i64_w, i32_w]
    rfl
   refine one_ (i := 4) (N := some 60) #[tt, tt, tt, tt, tt, ff, ff, ff, ff, ff, ff, ff, ff, ff, ff, ff, ff, ff, ff, ff, ff, ff, ff, ff, ff, ff, ff] rfl rfl (one_of HT_.out (by kernel_rfl)) (by decide) (fun K hK => ?_)
   refine goes_ Tryd.func16 (by kernel_rfl) rfl #[.agg #[.int .i64 t334, .int .i64 t335, .int .u64 t336, .string t337]] (by rfl) rfl rfl aO ?_
   with_reducible refine (withyref03_Right.calls t334 t335 t336 t337 t338 _ A51.out).mono ?_
   rintro e w85 ⟨rfl, hb⟩
   refine ⟨_, rfl, ?_⟩
   replace BK300 := bb BK300 hb
   replace BK301 := bb BK301 hb
   replace BK302 := bb BK302 hb
   replace BK325 := bb BK325 hb
   replace BK332 := bb BK332 hb
   replace HB := as_ (below_step bA hb)
   (try clear hb)
   (try clear hb2)
   (try clear hk)
   (try clear hi)
   refine hK.out _ _ ⟨(blk_cell BK300.out 0).trans rfl, (blk_cell BK300.out 1).trans rfl, (blk_cell BK300.out 2).trans rfl, (blk_cell BK300.out 3).trans rfl, (blk_cell BK301.out 0).trans rfl, (blk_cell BK301.out 1).trans rfl, (blk_cell BK301.out 2).trans rfl, (blk_cell BK301.out 3).trans rfl⟩ (fun hHeld => ?_)
   clear hK K
   refine norm_ (a' := ?_) ?_ ?_
   rotate_left
   ·show Act.put _ (some 60) _ = _
    simp only [Act.put, List.setIfInBounds_toArray, List.set_cons_zero, List.set_cons_succ, i64_w, i32_w]
    rfl
   refine pure_ (i := 5) (N := some 61) (v := ?_) (a' := ?_) #[tt, tt, tt, tt, tt, tt, ff, ff, ff, ff, ff, ff, ff, ff, ff, ff, ff, ff, ff, ff, ff, ff, ff, ff, ff, ff, ff] rfl rfl (any_of HT_.out (by kernel_rfl)) (fun _ _ _ h => h) (Or.inl ⟨by rfl, ?_⟩) ?_ ?_
   rotate_left
   ·intro w'
    go_simp
    with_reducible rfl
   rotate_left
   ·exact aP
   refine pure_ (i := 6) (N := some 62) (v := ?_) (a' := ?_) #[tt, tt, tt, tt, tt, tt, tt, ff, ff, ff, ff, ff, ff, ff, ff, ff, ff, ff, ff, ff, ff, ff, ff, ff, ff, ff, ff] rfl rfl (any_of HT_.out (by kernel_rfl)) (fun _ _ _ h => h) (Or.inl ⟨by rfl, ?_⟩) ?_ ?_
   rotate_left
   ·intro w'
    go_simp
    with_reducible rfl
   rotate_left
   ·exact aP
   refine take_ (i := 7) (N := some 63) (v := ?_) (a' := ?_) #[tt, tt, tt, tt, tt, tt, tt, tt, ff, ff, ff, ff, ff, ff, ff, ff, ff, ff, ff, ff, ff, ff, ff, ff, ff, ff, ff] rfl rfl (take_ofW HT_.out HW_.out (by kernel_rfl)) (fun _ _ _ h => h) (Or.inl ⟨by rfl, ?_⟩) hHeld ?_ ?_
   rotate_left
   ·rintro w' ⟨s0, s1, s2, s3, s4, s5, s6, s7⟩
    go_simp
    with_reducible rfl
   rotate_left
   ·exact aP
   refine one_ (i := 8) (N := some 64) #[tt, tt, tt, tt, tt, tt, tt, tt, tt, ff, ff, ff, ff, ff, ff, ff, ff, ff, ff, ff, ff, ff, ff, ff, ff, ff, ff] rfl rfl (one_of HT_.out (by kernel_rfl)) (by decide) (fun K hK => ?_)
   refine goes_ Tryd.func12 (by kernel_rfl) rfl #[.agg #[.int .i64 t303, .int .i64 t304, .int .u64 t305, .string t306]] (by rfl) rfl rfl aO ?_
   with_reducible refine (withylaw03_Ref.calls t303 t304 t305 t306 t339 t340 t341 t342 _ A58.out).mono ?_
   rintro e w86 ⟨rfl, hb⟩
   refine ⟨_, rfl, ?_⟩
   replace BK300 := bb BK300 hb
   replace BK301 := bb BK301 hb
   replace BK302 := bb BK302 hb
   replace BK325 := bb BK325 hb
   replace BK332 := bb BK332 hb
   replace HB := as_ (below_step bA hb)
   (try clear hb)
   (try clear hb2)
   (try clear hk)
   (try clear hi)
   refine hK.out _ _ ⟨(blk_cell BK300.out 0).trans rfl, (blk_cell BK300.out 1).trans rfl, (blk_cell BK300.out 2).trans rfl, (blk_cell BK300.out 3).trans rfl, (blk_cell BK301.out 0).trans rfl, (blk_cell BK301.out 1).trans rfl, (blk_cell BK301.out 2).trans rfl, (blk_cell BK301.out 3).trans rfl⟩ (fun hHeld => ?_)
   clear hK K
   refine norm_ (a' := ?_) ?_ ?_
   rotate_left
   ·show Act.put _ (some 64) _ = _
    simp only [Act.put, List.setIfInBounds_toArray, List.set_cons_zero, List.set_cons_succ, i64_w, i32_w]
    rfl
   refine one_ (i := 9) (N := some 65) #[tt, tt, tt, tt, tt, tt, tt, tt, tt, tt, ff, ff, ff, ff, ff, ff, ff, ff, ff, ff, ff, ff, ff, ff, ff, ff, ff] rfl rfl (one_of HT_.out (by kernel_rfl)) (by decide) (fun K hK => ?_)
   refine goes_ Tryd.func16 (by kernel_rfl) rfl #[.agg #[.int .i64 t339, .int .i64 t340, .int .u64 t341, .string t342]] (by rfl) rfl rfl aO ?_
   with_reducible refine (withyref03_Right.calls t339 t340 t341 t342 true _ A59.out).mono ?_
   rintro e w87 ⟨rfl, hb⟩
   refine ⟨_, rfl, ?_⟩
   replace BK300 := bb BK300 hb
   replace BK301 := bb BK301 hb
   replace BK302 := bb BK302 hb
   replace BK325 := bb BK325 hb
   replace BK332 := bb BK332 hb
   replace HB := as_ (below_step bA hb)
   (try clear hb)
   (try clear hb2)
   (try clear hk)
   (try clear hi)
   refine hK.out _ _ ⟨(blk_cell BK300.out 0).trans rfl, (blk_cell BK300.out 1).trans rfl, (blk_cell BK300.out 2).trans rfl, (blk_cell BK300.out 3).trans rfl, (blk_cell BK301.out 0).trans rfl, (blk_cell BK301.out 1).trans rfl, (blk_cell BK301.out 2).trans rfl, (blk_cell BK301.out 3).trans rfl⟩ (fun hHeld => ?_)
   clear hK K
   refine norm_ (a' := ?_) ?_ ?_
   rotate_left
   ·show Act.put _ (some 65) _ = _
    simp only [Act.put, List.setIfInBounds_toArray, List.set_cons_zero, List.set_cons_succ, i64_w, i32_w]
    rfl
   refine pure_ (i := 10) (N := some 66) (v := ?_) (a' := ?_) #[tt, tt, tt, tt, tt, tt, tt, tt, tt, tt, tt, ff, ff, ff, ff, ff, ff, ff, ff, ff, ff, ff, ff, ff, ff, ff, ff] rfl rfl (any_of HT_.out (by kernel_rfl)) (fun _ _ _ h => h) (Or.inl ⟨by rfl, ?_⟩) ?_ ?_
   rotate_left
   ·intro w'
    go_simp
    with_reducible rfl
   rotate_left
   ·exact aP
   refine take_ (i := 11) (N := some 67) (v := ?_) (a' := ?_) #[tt, tt, tt, tt, tt, tt, tt, tt, tt, tt, tt, tt, ff, ff, ff, ff, ff, ff, ff, ff, ff, ff, ff, ff, ff, ff, ff] rfl rfl (take_ofW HT_.out HW_.out (by kernel_rfl)) (fun _ _ _ h => h) (Or.inl ⟨by rfl, ?_⟩) hHeld ?_ ?_
   rotate_left
   ·rintro w' ⟨s0, s1, s2, s3, s4, s5, s6, s7⟩
    go_simp
    with_reducible rfl
   rotate_left
   ·exact aP
   refine one_ (i := 12) (N := some 68) #[tt, tt, tt, tt, tt, tt, tt, tt, tt, tt, tt, tt, tt, ff, ff, ff, ff, ff, ff, ff, ff, ff, ff, ff, ff, ff, ff] rfl rfl (one_of HT_.out (by kernel_rfl)) (by decide) (fun K hK => ?_)
   refine goes_ Tryd.func12 (by kernel_rfl) rfl #[.agg #[.int .i64 t307, .int .i64 t308, .int .u64 t309, .string t310]] (by rfl) rfl rfl aO ?_
   with_reducible refine (withylaw03_Ref.calls t307 t308 t309 t310 t344 t345 t346 t347 _ A61.out).mono ?_
   rintro e w88 ⟨rfl, hb⟩
   refine ⟨_, rfl, ?_⟩
   replace BK300 := bb BK300 hb
   replace BK301 := bb BK301 hb
   replace BK302 := bb BK302 hb
   replace BK325 := bb BK325 hb
   replace BK332 := bb BK332 hb
   replace HB := as_ (below_step bA hb)
   (try clear hb)
   (try clear hb2)
   (try clear hk)
   (try clear hi)
   refine hK.out _ _ ⟨(blk_cell BK300.out 0).trans rfl, (blk_cell BK300.out 1).trans rfl, (blk_cell BK300.out 2).trans rfl, (blk_cell BK300.out 3).trans rfl, (blk_cell BK301.out 0).trans rfl, (blk_cell BK301.out 1).trans rfl, (blk_cell BK301.out 2).trans rfl, (blk_cell BK301.out 3).trans rfl⟩ (fun hHeld => ?_)
   clear hK K
   refine norm_ (a' := ?_) ?_ ?_
   rotate_left
   ·show Act.put _ (some 68) _ = _
    simp only [Act.put, List.setIfInBounds_toArray, List.set_cons_zero, List.set_cons_succ, i64_w, i32_w]
    rfl
   refine one_ (i := 13) (N := some 69) #[tt, tt, tt, tt, tt, tt, tt, tt, tt, tt, tt, tt, tt, tt, ff, ff, ff, ff, ff, ff, ff, ff, ff, ff, ff, ff, ff] rfl rfl (one_of HT_.out (by kernel_rfl)) (by decide) (fun K hK => ?_)
   refine goes_ Tryd.func16 (by kernel_rfl) rfl #[.agg #[.int .i64 t344, .int .i64 t345, .int .u64 t346, .string t347]] (by rfl) rfl rfl aO ?_
   with_reducible refine (withyref03_Right.calls t344 t345 t346 t347 false _ A62.out).mono ?_
   rintro e w89 ⟨rfl, hb⟩
   refine ⟨_, rfl, ?_⟩
   replace BK300 := bb BK300 hb
   replace BK301 := bb BK301 hb
   replace BK302 := bb BK302 hb
   replace BK325 := bb BK325 hb
   replace BK332 := bb BK332 hb
   replace HB := as_ (below_step bA hb)
   (try clear hb)
   (try clear hb2)
   (try clear hk)
   (try clear hi)
   refine hK.out _ _ ⟨(blk_cell BK300.out 0).trans rfl, (blk_cell BK300.out 1).trans rfl, (blk_cell BK300.out 2).trans rfl, (blk_cell BK300.out 3).trans rfl, (blk_cell BK301.out 0).trans rfl, (blk_cell BK301.out 1).trans rfl, (blk_cell BK301.out 2).trans rfl, (blk_cell BK301.out 3).trans rfl⟩ (fun hHeld => ?_)
   clear hK K
   refine norm_ (a' := ?_) ?_ ?_
   rotate_left
   ·show Act.put _ (some 69) _ = _
    simp only [Act.put, List.setIfInBounds_toArray, List.set_cons_zero, List.set_cons_succ, i64_w, i32_w]
    rfl
   refine pure_ (i := 14) (N := some 70) (v := ?_) (a' := ?_) #[tt, tt, tt, tt, tt, tt, tt, tt, tt, tt, tt, tt, tt, tt, tt, ff, ff, ff, ff, ff, ff, ff, ff, ff, ff, ff, ff] rfl rfl (any_of HT_.out (by kernel_rfl)) (fun _ _ _ h => h) (Or.inl ⟨by rfl, ?_⟩) ?_ ?_
   rotate_left
   ·intro w'
    go_simp
    with_reducible rfl
   rotate_left
   ·exact aP
   refine pure_ (i := 15) (N := some 71) (v := ?_) (a' := ?_) #[tt, tt, tt, tt, tt, tt, tt, tt, tt, tt, tt, tt, tt, tt, tt, tt, ff, ff, ff, ff, ff, ff, ff, ff, ff, ff, ff] rfl rfl (any_of HT_.out (by kernel_rfl)) (fun _ _ _ h => h) (Or.inl ⟨by rfl, ?_⟩) ?_ ?_
   rotate_left
   ·intro w'
    go_simp
    with_reducible rfl
   rotate_left
   ·exact aP
   refine pure_ (i := 16) (N := some 72) (v := undef) (a' := ?_) #[tt, tt, tt, tt, tt, tt, tt, tt, tt, tt, tt, tt, tt, tt, tt, tt, tt, ff, ff, ff, ff, ff, ff, ff, ff, ff, ff] rfl rfl (any_of HT_.out (by kernel_rfl)) (fun _ _ _ h => h) (Or.inr ⟨by rfl, rfl⟩) ?_ ?_
   rotate_left
   ·exact aP
   refine pure_ (i := 17) (N := some 73) (v := undef) (a' := ?_) #[tt, tt, tt, tt, tt, tt, tt, tt, tt, tt, tt, tt, tt, tt, tt, tt, tt, tt, ff, ff, ff, ff, ff, ff, ff, ff, ff] rfl rfl (any_of HT_.out (by kernel_rfl)) (fun _ _ _ h => h) (Or.inr ⟨by rfl, rfl⟩) ?_ ?_
   rotate_left
   ·exact aP
   refine pure_ (i := 18) (N := some 74) (v := undef) (a' := ?_) #[tt, tt, tt, tt, tt, tt, tt, tt, tt, tt, tt, tt, tt, tt, tt, tt, tt, tt, tt, ff, ff, ff, ff, ff, ff, ff, ff] rfl rfl (any_of HT_.out (by kernel_rfl)) (fun _ _ _ h => h) (Or.inr ⟨by rfl, rfl⟩) ?_ ?_
   rotate_left
   ·exact aP
   refine pure_ (i := 19) (N := some 75) (v := undef) (a' := ?_) #[tt, tt, tt, tt, tt, tt, tt, tt, tt, tt, tt, tt, tt, tt, tt, tt, tt, tt, tt, tt, ff, ff, ff, ff, ff, ff, ff] rfl rfl (any_of HT_.out (by kernel_rfl)) (fun _ _ _ h => h) (Or.inr ⟨by rfl, rfl⟩) ?_ ?_
   rotate_left
   ·exact aP
   refine pure_ (i := 20) (N := some 76) (v := undef) (a' := ?_) #[tt, tt, tt, tt, tt, tt, tt, tt, tt, tt, tt, tt, tt, tt, tt, tt, tt, tt, tt, tt, tt, ff, ff, ff, ff, ff, ff] rfl rfl (any_of HT_.out (by kernel_rfl)) (fun _ _ _ h => h) (Or.inr ⟨by rfl, rfl⟩) ?_ ?_
   rotate_left
   ·exact aP
   refine pure_ (i := 21) (N := some 77) (v := undef) (a' := ?_) #[tt, tt, tt, tt, tt, tt, tt, tt, tt, tt, tt, tt, tt, tt, tt, tt, tt, tt, tt, tt, tt, tt, ff, ff, ff, ff, ff] rfl rfl (any_of HT_.out (by kernel_rfl)) (fun _ _ _ h => h) (Or.inr ⟨by rfl, rfl⟩) ?_ ?_
   rotate_left
   ·exact aP
   refine pure_ (i := 22) (N := some 78) (v := undef) (a' := ?_) #[tt, tt, tt, tt, tt, tt, tt, tt, tt, tt, tt, tt, tt, tt, tt, tt, tt, tt, tt, tt, tt, tt, tt, ff, ff, ff, ff] rfl rfl (any_of HT_.out (by kernel_rfl)) (fun _ _ _ h => h) (Or.inr ⟨by rfl, rfl⟩) ?_ ?_
   rotate_left
   ·exact aP
   refine pure_ (i := 23) (N := some 79) (v := undef) (a' := ?_) #[tt, tt, tt, tt, tt, tt, tt, tt, tt, tt, tt, tt, tt, tt, tt, tt, tt, tt, tt, tt, tt, tt, tt, tt, ff, ff, ff] rfl rfl (any_of HT_.out (by kernel_rfl)) (fun _ _ _ h => h) (Or.inr ⟨by rfl, rfl⟩) ?_ ?_
   rotate_left
   ·exact aP
   refine pure_ (i := 24) (N := some 80) (v := undef) (a' := ?_) #[tt, tt, tt, tt, tt, tt, tt, tt, tt, tt, tt, tt, tt, tt, tt, tt, tt, tt, tt, tt, tt, tt, tt, tt, tt, ff, ff] rfl rfl (any_of HT_.out (by kernel_rfl)) (fun _ _ _ h => h) (Or.inr ⟨by rfl, rfl⟩) ?_ ?_
   rotate_left
   ·exact aP
   refine pure_ (i := 25) (N := some 81) (v := ?_) (a' := ?_) #[tt, tt, tt, tt, tt, tt, tt, tt, tt, tt, tt, tt, tt, tt, tt, tt, tt, tt, tt, tt, tt, tt, tt, tt, tt, tt, ff] rfl rfl (any_of HT_.out (by kernel_rfl)) (fun _ _ _ h => h) (Or.inl ⟨by rfl, ?_⟩) ?_ ?_
   rotate_left
   ·intro w'
    go_simp
    with_reducible rfl
   rotate_left
   ·exact aP
   refine pure_ (i := 26) (N := some 82) (v := ?_) (a' := ?_) #[tt, tt, tt, tt, tt, tt, tt, tt, tt, tt, tt, tt, tt, tt, tt, tt, tt, tt, tt, tt, tt, tt, tt, tt, tt, tt, tt] rfl rfl (any_of HT_.out (by kernel_rfl)) (fun _ _ _ h => h) (Or.inl ⟨by rfl, ?_⟩) ?_ ?_
   rotate_left
   ·intro w'
    go_simp
    with_reducible rfl
   rotate_left
   ·exact aP
   refine done_ (done_of HT_.out (by kernel_rfl)) ?_
   try go_wp2
   go_meet
   case rel => exact ⟨_, (false), (by first | rfl | (simp; done) | (simp [*]; done)), H', ⟨by first | omega | exact Nat.le_refl _⟩, ⟨by refine bx ?_; exact BK300.out⟩, ⟨by refine bx ?_; exact BK301.out⟩, ⟨by refine bx ?_; exact BK302.out⟩, ⟨by refine bx ?_; exact BK325.out⟩, ⟨by refine bx ?_; exact BK332.out⟩, ⟨by repeat (first | (with_reducible first | exact HB.out | apply below_alloc | apply pw_below_drewN | apply below_drew1 | refine below_set ?_ GE300.out | refine below_set ?_ GE301.out | refine below_set ?_ GE302.out | refine below_set ?_ GE325.out | refine below_set ?_ GE332.out) | exact HB.out)⟩⟩
  subst c63
  have H1 : ((col_Compare.f k t303 t304 t305 t306 t307 t308 t309 t310).bind fun t349 => ((withylaw03_Ref.f t303 t304 t305 t306).bind fun bt350 => ((withylaw03_Ref.f t307 t308 t309 t310).bind fun bt354 => ((withyref03_Compare.f bt350.1 bt350.2.1 bt350.2.2.1 bt350.2.2.2 bt354.1 bt354.2.1 bt354.2.2.1 bt354.2.2.2).bind fun t358 => (withylaw03_ColTells.j0 k t311 t312 t317 t318 t323 t324 t330 t331 (t349 != t358) t319 t320 t321 t322 t326 t327 t328 t329))))) = some r := by rw [if_pos rfl] at H; exact H
  clear H
  have H := H1
  clear H1
  replace H := bM H
  obtain ⟨t349, A640, H⟩ := H
  replace H : ((withylaw03_Ref.f t303 t304 t305 t306).bind fun bt350 => ((withylaw03_Ref.f t307 t308 t309 t310).bind fun bt354 => ((withyref03_Compare.f bt350.1 bt350.2.1 bt350.2.2.1 bt350.2.2.2 bt354.1 bt354.2.1 bt354.2.2.1 bt354.2.2.2).bind fun t358 => (withylaw03_ColTells.j0 k t311 t312 t317 t318 t323 t324 t330 t331 (t349 != t358) t319 t320 t321 t322 t326 t327 t328 t329)))) = some r := H
  have A64 := Aside0.mk A640
  clear A640
  replace H := bM H
  obtain ⟨⟨t350, t351, t352, t353⟩, A650, H⟩ := H
  replace H : ((withylaw03_Ref.f t307 t308 t309 t310).bind fun bt354 => ((withyref03_Compare.f t350 t351 t352 t353 bt354.1 bt354.2.1 bt354.2.2.1 bt354.2.2.2).bind fun t358 => (withylaw03_ColTells.j0 k t311 t312 t317 t318 t323 t324 t330 t331 (t349 != t358) t319 t320 t321 t322 t326 t327 t328 t329))) = some r := H
  have A65 := Aside0.mk A650
  clear A650
  replace H := bM H
  obtain ⟨⟨t354, t355, t356, t357⟩, A660, H⟩ := H
  replace H : ((withyref03_Compare.f t350 t351 t352 t353 t354 t355 t356 t357).bind fun t358 => (withylaw03_ColTells.j0 k t311 t312 t317 t318 t323 t324 t330 t331 (t349 != t358) t319 t320 t321 t322 t326 t327 t328 t329)) = some r := H
  have A66 := Aside0.mk A660
  clear A660
  replace H := bM H
  obtain ⟨t358, A670, H⟩ := H
  replace H : (withylaw03_ColTells.j0 k t311 t312 t317 t318 t323 t324 t330 t331 (t349 != t358) t319 t320 t321 t322 t326 t327 t328 t329) = some r := H
  have A67 := Aside0.mk A670
  clear A670
  have H' := Aside0.mk H
  clear H
  try go_wp2
  have n0_ : Aside0 (((((w43.setCell ⟨gb332, 0, none⟩ (.int .i64 t326)).setCell ⟨gb332, 1, none⟩ (.int .i64 t327)).setCell ⟨gb332, 2, none⟩ (.int .u64 t328)).setCell ⟨gb332, 3, none⟩ (.string t329)).heap[gb300]? = some (.cells #[.int .i64 t303, .int .i64 t304, .int .u64 t305, .string t306] 24 (0, 0))) := ⟨by refine bx ?_; refine blk_far ?_ NB300_332.out _; refine bx ?_; refine blk_far ?_ NB300_332.out _; refine bx ?_; refine blk_far ?_ NB300_332.out _; refine bx ?_; refine blk_far ?_ NB300_332.out _; refine bx ?_; exact BK300.out⟩
  have n1_ : Aside0 (((((w43.setCell ⟨gb332, 0, none⟩ (.int .i64 t326)).setCell ⟨gb332, 1, none⟩ (.int .i64 t327)).setCell ⟨gb332, 2, none⟩ (.int .u64 t328)).setCell ⟨gb332, 3, none⟩ (.string t329)).heap[gb301]? = some (.cells #[.int .i64 t307, .int .i64 t308, .int .u64 t309, .string t310] 24 (0, 0))) := ⟨by refine bx ?_; refine blk_far ?_ NB301_332.out _; refine bx ?_; refine blk_far ?_ NB301_332.out _; refine bx ?_; refine blk_far ?_ NB301_332.out _; refine bx ?_; refine blk_far ?_ NB301_332.out _; refine bx ?_; exact BK301.out⟩
  have n2_ : Aside0 (((((w43.setCell ⟨gb332, 0, none⟩ (.int .i64 t326)).setCell ⟨gb332, 1, none⟩ (.int .i64 t327)).setCell ⟨gb332, 2, none⟩ (.int .u64 t328)).setCell ⟨gb332, 3, none⟩ (.string t329)).heap[gb302]? = some (.cells #[.string a2_0, .int .i64 a2_1] 26 (0, 0))) := ⟨by refine bx ?_; refine blk_far ?_ NB302_332.out _; refine bx ?_; refine blk_far ?_ NB302_332.out _; refine bx ?_; refine blk_far ?_ NB302_332.out _; refine bx ?_; refine blk_far ?_ NB302_332.out _; refine bx ?_; exact BK302.out⟩
  have n3_ : Aside0 (((((w43.setCell ⟨gb332, 0, none⟩ (.int .i64 t326)).setCell ⟨gb332, 1, none⟩ (.int .i64 t327)).setCell ⟨gb332, 2, none⟩ (.int .u64 t328)).setCell ⟨gb332, 3, none⟩ (.string t329)).heap[gb325]? = some (.cells #[.int .i64 t319, .int .i64 t320, .int .u64 t321, .string t322] 24 (0, 0))) := ⟨by refine bx ?_; refine blk_far ?_ NB325_332.out _; refine bx ?_; refine blk_far ?_ NB325_332.out _; refine bx ?_; refine blk_far ?_ NB325_332.out _; refine bx ?_; refine blk_far ?_ NB325_332.out _; refine bx ?_; exact BK325.out⟩
  have n4_ : Aside0 (((((w43.setCell ⟨gb332, 0, none⟩ (.int .i64 t326)).setCell ⟨gb332, 1, none⟩ (.int .i64 t327)).setCell ⟨gb332, 2, none⟩ (.int .u64 t328)).setCell ⟨gb332, 3, none⟩ (.string t329)).heap[gb332]? = some (.cells #[.int .i64 t326, .int .i64 t327, .int .u64 t328, .string t329] 32 (0, 0))) := ⟨by refine bx ?_; refine blk_put (cs := #[.int .i64 t326, .int .i64 t327, .int .u64 t328, .string (⟨#[]⟩ : ByteArray)]) ?_ 3 _ rfl; refine bx ?_; refine blk_put (cs := #[.int .i64 t326, .int .i64 t327, .int .u64 0, .string (⟨#[]⟩ : ByteArray)]) ?_ 2 _ rfl; refine bx ?_; refine blk_put (cs := #[.int .i64 t326, .int .i64 0, .int .u64 0, .string (⟨#[]⟩ : ByteArray)]) ?_ 1 _ rfl; refine bx ?_; refine blk_put (cs := #[.int .i64 0, .int .i64 0, .int .u64 0, .string (⟨#[]⟩ : ByteArray)]) ?_ 0 _ rfl; refine bx ?_; exact BK332.out⟩
  have n5_ : Aside0 (Below w.heap.size w ((((w43.setCell ⟨gb332, 0, none⟩ (.int .i64 t326)).setCell ⟨gb332, 1, none⟩ (.int .i64 t327)).setCell ⟨gb332, 2, none⟩ (.int .u64 t328)).setCell ⟨gb332, 3, none⟩ (.string t329))) := ⟨by repeat (first | (with_reducible first | exact HB.out | apply below_alloc | apply pw_below_drewN | apply below_drew1 | refine below_set ?_ GE300.out | refine below_set ?_ GE301.out | refine below_set ?_ GE302.out | refine below_set ?_ GE325.out | refine below_set ?_ GE332.out) | exact HB.out)⟩
  (try clear BK300)
  (try clear BK301)
  (try clear BK302)
  (try clear BK325)
  (try clear BK332)
  (try clear HB)
  generalize ((((w43.setCell ⟨gb332, 0, none⟩ (.int .i64 t326)).setCell ⟨gb332, 1, none⟩ (.int .i64 t327)).setCell ⟨gb332, 2, none⟩ (.int .u64 t328)).setCell ⟨gb332, 3, none⟩ (.string t329)) = w68 at n0_ n1_ n2_ n3_ n4_ n5_ ⊢
  have BK300 := n0_
  have BK301 := n1_
  have BK302 := n2_
  have BK325 := n3_
  have BK332 := n4_
  have HB := n5_
  clear n0_ n1_ n2_ n3_ n4_ n5_
  replace BK300 := as_ (blk_drew BK300.out)
  replace BK301 := as_ (blk_drew BK301.out)
  replace BK302 := as_ (blk_drew BK302.out)
  replace BK325 := as_ (blk_drew BK325.out)
  replace BK332 := as_ (blk_drew BK332.out)
  replace HB := as_ (below_drew1 HB.out)
  refine start_ (n := 27) (S := fun w' => w'.cell? ⟨gb300, 0, none⟩ = some (.int .i64 t303) ∧ w'.cell? ⟨gb300, 1, none⟩ = some (.int .i64 t304) ∧ w'.cell? ⟨gb300, 2, none⟩ = some (.int .u64 t305) ∧ w'.cell? ⟨gb300, 3, none⟩ = some (.string t306) ∧ w'.cell? ⟨gb301, 0, none⟩ = some (.int .i64 t307) ∧ w'.cell? ⟨gb301, 1, none⟩ = some (.int .i64 t308) ∧ w'.cell? ⟨gb301, 2, none⟩ = some (.int .u64 t309) ∧ w'.cell? ⟨gb301, 3, none⟩ = some (.string t310)) (ds := []) #[ff, ff, ff, ff, ff, ff, ff, ff, ff, ff, ff, ff, ff, ff, ff, ff, ff, ff, ff, ff, ff, ff, ff, ff, ff, ff, ff] (by kernel_rfl) rfl rfl ⟨(blk_cell BK300.out 0).trans rfl, (blk_cell BK300.out 1).trans rfl, (blk_cell BK300.out 2).trans rfl, (blk_cell BK300.out 3).trans rfl, (blk_cell BK301.out 0).trans rfl, (blk_cell BK301.out 1).trans rfl, (blk_cell BK301.out 2).trans rfl, (blk_cell BK301.out 3).trans rfl⟩ (fun hHeld => ?_); refine with_tabW withylaw03_ColTells.tab8 withylaw03_ColTells.bits8 (fun HT_ HW_ => ?_)
  generalize w68.drew = w69 at BK300 BK301 BK302 BK325 BK332 HB hHeld ⊢
  refine take_ (i := 0) (N := some 56) (v := ?_) (a' := ?_) #[tt, ff, ff, ff, ff, ff, ff, ff, ff, ff, ff, ff, ff, ff, ff, ff, ff, ff, ff, ff, ff, ff, ff, ff, ff, ff, ff] rfl rfl (take_ofW HT_.out HW_.out (by kernel_rfl)) (fun _ _ _ h => h) (Or.inl ⟨by rfl, ?_⟩) hHeld ?_ ?_
  rotate_left
  ·rintro w' ⟨s0, s1, s2, s3, s4, s5, s6, s7⟩
   go_simp
   with_reducible rfl
  rotate_left
  ·exact aP
  refine take_ (i := 2) (N := some 58) (v := ?_) (a' := ?_) #[tt, ff, tt, ff, ff, ff, ff, ff, ff, ff, ff, ff, ff, ff, ff, ff, ff, ff, ff, ff, ff, ff, ff, ff, ff, ff, ff] rfl rfl (take_ofW HT_.out HW_.out (by kernel_rfl)) (fun _ _ _ h => h) (Or.inl ⟨by rfl, ?_⟩) hHeld ?_ ?_
  rotate_left
  ·rintro w' ⟨s0, s1, s2, s3, s4, s5, s6, s7⟩
   go_simp
   with_reducible rfl
  rotate_left
  ·exact aP
  refine one_ (i := 1) (N := some 57) #[tt, tt, tt, ff, ff, ff, ff, ff, ff, ff, ff, ff, ff, ff, ff, ff, ff, ff, ff, ff, ff, ff, ff, ff, ff, ff, ff] rfl rfl (one_of HT_.out (by kernel_rfl)) (by decide) (fun K hK => ?_)
  refine goes_ Tryd.func15 (by kernel_rfl) rfl #[.agg #[.int .i64 t303, .int .i64 t304, .int .u64 t305, .string t306]] (by rfl) rfl rfl aO ?_
  with_reducible refine (col_Right.calls k t303 t304 t305 t306 t333 _ A49.out).mono ?_
  rintro e w70 ⟨rfl, hb⟩
  refine ⟨_, rfl, ?_⟩
  replace BK300 := bb BK300 hb
  replace BK301 := bb BK301 hb
  replace BK302 := bb BK302 hb
  replace BK325 := bb BK325 hb
  replace BK332 := bb BK332 hb
  replace HB := as_ (below_step bA hb)
  (try clear hb)
  (try clear hb2)
  (try clear hk)
  (try clear hi)
  refine hK.out _ _ ⟨(blk_cell BK300.out 0).trans rfl, (blk_cell BK300.out 1).trans rfl, (blk_cell BK300.out 2).trans rfl, (blk_cell BK300.out 3).trans rfl, (blk_cell BK301.out 0).trans rfl, (blk_cell BK301.out 1).trans rfl, (blk_cell BK301.out 2).trans rfl, (blk_cell BK301.out 3).trans rfl⟩ (fun hHeld => ?_)
  clear hK K
  refine norm_ (a' := ?_) ?_ ?_
  rotate_left
  ·show Act.put _ (some 57) _ = _
   simp only [Act.put, List.setIfInBounds_toArray, List.set_cons_zero, List.set_cons_succ, i64_w, i32_w]
   rfl
  refine one_ (i := 3) (N := some 59) #[tt, tt, tt, tt, ff, ff, ff, ff, ff, ff, ff, ff, ff, ff, ff, ff, ff, ff, ff, ff, ff, ff, ff, ff, ff, ff, ff] rfl rfl (one_of HT_.out (by kernel_rfl)) (by decide) (fun K hK => ?_)
  refine goes_ Tryd.func12 (by kernel_rfl) rfl #[.agg #[.int .i64 t303, .int .i64 t304, .int .u64 t305, .string t306]] (by rfl) rfl rfl aO ?_
  with_reducible refine (withylaw03_Ref.calls t303 t304 t305 t306 t334 t335 t336 t337 _ A50.out).mono ?_
  rintro e w71 ⟨rfl, hb⟩
  refine ⟨_, rfl, ?_⟩
  replace BK300 := bb BK300 hb
  replace BK301 := bb BK301 hb
  replace BK302 := bb BK302 hb
  replace BK325 := bb BK325 hb
  replace BK332 := bb BK332 hb
  replace HB := as_ (below_step bA hb)
  (try clear hb)
  (try clear hb2)
  (try clear hk)
  (try clear hi)
  refine hK.out _ _ ⟨(blk_cell BK300.out 0).trans rfl, (blk_cell BK300.out 1).trans rfl, (blk_cell BK300.out 2).trans rfl, (blk_cell BK300.out 3).trans rfl, (blk_cell BK301.out 0).trans rfl, (blk_cell BK301.out 1).trans rfl, (blk_cell BK301.out 2).trans rfl, (blk_cell BK301.out 3).trans rfl⟩ (fun hHeld => ?_)
  clear hK K
  refine norm_ (a' := ?_) ?_ ?_
  rotate_left
  ·show Act.put _ (some 59) _ = _
   simp only [Act.put, List.setIfInBounds_toArray, List.set_cons_zero, List.set_cons_succ, i64_w, i32_w]
   rfl
  refine one_ (i := 4) (N := some 60) #[tt, tt, tt, tt, tt, ff, ff, ff, ff, ff, ff, ff, ff, ff, ff, ff, ff, ff, ff, ff, ff, ff, ff, ff, ff, ff, ff] rfl rfl (one_of HT_.out (by kernel_rfl)) (by decide) (fun K hK => ?_)
  refine goes_ Tryd.func16 (by kernel_rfl) rfl #[.agg #[.int .i64 t334, .int .i64 t335, .int .u64 t336, .string t337]] (by rfl) rfl rfl aO ?_
  with_reducible refine (withyref03_Right.calls t334 t335 t336 t337 t338 _ A51.out).mono ?_
  rintro e w72 ⟨rfl, hb⟩
  refine ⟨_, rfl, ?_⟩
  replace BK300 := bb BK300 hb
  replace BK301 := bb BK301 hb
  replace BK302 := bb BK302 hb
  replace BK325 := bb BK325 hb
  replace BK332 := bb BK332 hb
  replace HB := as_ (below_step bA hb)
  (try clear hb)
  (try clear hb2)
  (try clear hk)
  (try clear hi)
  refine hK.out _ _ ⟨(blk_cell BK300.out 0).trans rfl, (blk_cell BK300.out 1).trans rfl, (blk_cell BK300.out 2).trans rfl, (blk_cell BK300.out 3).trans rfl, (blk_cell BK301.out 0).trans rfl, (blk_cell BK301.out 1).trans rfl, (blk_cell BK301.out 2).trans rfl, (blk_cell BK301.out 3).trans rfl⟩ (fun hHeld => ?_)
  clear hK K
  refine norm_ (a' := ?_) ?_ ?_
  rotate_left
  ·show Act.put _ (some 60) _ = _
   simp only [Act.put, List.setIfInBounds_toArray, List.set_cons_zero, List.set_cons_succ, i64_w, i32_w]
   rfl
  refine pure_ (i := 5) (N := some 61) (v := ?_) (a' := ?_) #[tt, tt, tt, tt, tt, tt, ff, ff, ff, ff, ff, ff, ff, ff, ff, ff, ff, ff, ff, ff, ff, ff, ff, ff, ff, ff, ff] rfl rfl (any_of HT_.out (by kernel_rfl)) (fun _ _ _ h => h) (Or.inl ⟨by rfl, ?_⟩) ?_ ?_
  rotate_left
  ·intro w'
   go_simp
   with_reducible rfl
  rotate_left
  ·exact aP
  refine pure_ (i := 6) (N := some 62) (v := ?_) (a' := ?_) #[tt, tt, tt, tt, tt, tt, tt, ff, ff, ff, ff, ff, ff, ff, ff, ff, ff, ff, ff, ff, ff, ff, ff, ff, ff, ff, ff] rfl rfl (any_of HT_.out (by kernel_rfl)) (fun _ _ _ h => h) (Or.inl ⟨by rfl, ?_⟩) ?_ ?_
  rotate_left
  ·intro w'
   go_simp
   with_reducible rfl
  rotate_left
  ·exact aP
  refine take_ (i := 7) (N := some 63) (v := ?_) (a' := ?_) #[tt, tt, tt, tt, tt, tt, tt, tt, ff, ff, ff, ff, ff, ff, ff, ff, ff, ff, ff, ff, ff, ff, ff, ff, ff, ff, ff] rfl rfl (take_ofW HT_.out HW_.out (by kernel_rfl)) (fun _ _ _ h => h) (Or.inl ⟨by rfl, ?_⟩) hHeld ?_ ?_
  rotate_left
  ·rintro w' ⟨s0, s1, s2, s3, s4, s5, s6, s7⟩
   go_simp
   with_reducible rfl
  rotate_left
  ·exact aP
  refine one_ (i := 8) (N := some 64) #[tt, tt, tt, tt, tt, tt, tt, tt, tt, ff, ff, ff, ff, ff, ff, ff, ff, ff, ff, ff, ff, ff, ff, ff, ff, ff, ff] rfl rfl (one_of HT_.out (by kernel_rfl)) (by decide) (fun K hK => ?_)
  refine goes_ Tryd.func12 (by kernel_rfl) rfl #[.agg #[.int .i64 t303, .int .i64 t304, .int .u64 t305, .string t306]] (by rfl) rfl rfl aO ?_
  with_reducible refine (withylaw03_Ref.calls t303 t304 t305 t306 t339 t340 t341 t342 _ A58.out).mono ?_
  rintro e w73 ⟨rfl, hb⟩
  refine ⟨_, rfl, ?_⟩
  replace BK300 := bb BK300 hb
  replace BK301 := bb BK301 hb
  replace BK302 := bb BK302 hb
  replace BK325 := bb BK325 hb
  replace BK332 := bb BK332 hb
  replace HB := as_ (below_step bA hb)
  (try clear hb)
  (try clear hb2)
  (try clear hk)
  (try clear hi)
  refine hK.out _ _ ⟨(blk_cell BK300.out 0).trans rfl, (blk_cell BK300.out 1).trans rfl, (blk_cell BK300.out 2).trans rfl, (blk_cell BK300.out 3).trans rfl, (blk_cell BK301.out 0).trans rfl, (blk_cell BK301.out 1).trans rfl, (blk_cell BK301.out 2).trans rfl, (blk_cell BK301.out 3).trans rfl⟩ (fun hHeld => ?_)
  clear hK K
  refine norm_ (a' := ?_) ?_ ?_
  rotate_left
  ·show Act.put _ (some 64) _ = _
   simp only [Act.put, List.setIfInBounds_toArray, List.set_cons_zero, List.set_cons_succ, i64_w, i32_w]
   rfl
  refine one_ (i := 9) (N := some 65) #[tt, tt, tt, tt, tt, tt, tt, tt, tt, tt, ff, ff, ff, ff, ff, ff, ff, ff, ff, ff, ff, ff, ff, ff, ff, ff, ff] rfl rfl (one_of HT_.out (by kernel_rfl)) (by decide) (fun K hK => ?_)
  refine goes_ Tryd.func16 (by kernel_rfl) rfl #[.agg #[.int .i64 t339, .int .i64 t340, .int .u64 t341, .string t342]] (by rfl) rfl rfl aO ?_
  with_reducible refine (withyref03_Right.calls t339 t340 t341 t342 true _ A59.out).mono ?_
  rintro e w74 ⟨rfl, hb⟩
  refine ⟨_, rfl, ?_⟩
  replace BK300 := bb BK300 hb
  replace BK301 := bb BK301 hb
  replace BK302 := bb BK302 hb
  replace BK325 := bb BK325 hb
  replace BK332 := bb BK332 hb
  replace HB := as_ (below_step bA hb)
  (try clear hb)
  (try clear hb2)
  (try clear hk)
  (try clear hi)
  refine hK.out _ _ ⟨(blk_cell BK300.out 0).trans rfl, (blk_cell BK300.out 1).trans rfl, (blk_cell BK300.out 2).trans rfl, (blk_cell BK300.out 3).trans rfl, (blk_cell BK301.out 0).trans rfl, (blk_cell BK301.out 1).trans rfl, (blk_cell BK301.out 2).trans rfl, (blk_cell BK301.out 3).trans rfl⟩ (fun hHeld => ?_)
  clear hK K
  refine norm_ (a' := ?_) ?_ ?_
  rotate_left
  ·show Act.put _ (some 65) _ = _
   simp only [Act.put, List.setIfInBounds_toArray, List.set_cons_zero, List.set_cons_succ, i64_w, i32_w]
   rfl
  refine pure_ (i := 10) (N := some 66) (v := ?_) (a' := ?_) #[tt, tt, tt, tt, tt, tt, tt, tt, tt, tt, tt, ff, ff, ff, ff, ff, ff, ff, ff, ff, ff, ff, ff, ff, ff, ff, ff] rfl rfl (any_of HT_.out (by kernel_rfl)) (fun _ _ _ h => h) (Or.inl ⟨by rfl, ?_⟩) ?_ ?_
  rotate_left
  ·intro w'
   go_simp
   with_reducible rfl
  rotate_left
  ·exact aP
  refine take_ (i := 11) (N := some 67) (v := ?_) (a' := ?_) #[tt, tt, tt, tt, tt, tt, tt, tt, tt, tt, tt, tt, ff, ff, ff, ff, ff, ff, ff, ff, ff, ff, ff, ff, ff, ff, ff] rfl rfl (take_ofW HT_.out HW_.out (by kernel_rfl)) (fun _ _ _ h => h) (Or.inl ⟨by rfl, ?_⟩) hHeld ?_ ?_
  rotate_left
  ·rintro w' ⟨s0, s1, s2, s3, s4, s5, s6, s7⟩
   go_simp
   with_reducible rfl
  rotate_left
  ·exact aP
  refine one_ (i := 12) (N := some 68) #[tt, tt, tt, tt, tt, tt, tt, tt, tt, tt, tt, tt, tt, ff, ff, ff, ff, ff, ff, ff, ff, ff, ff, ff, ff, ff, ff] rfl rfl (one_of HT_.out (by kernel_rfl)) (by decide) (fun K hK => ?_)
  refine goes_ Tryd.func12 (by kernel_rfl) rfl #[.agg #[.int .i64 t307, .int .i64 t308, .int .u64 t309, .string t310]] (by rfl) rfl rfl aO ?_
  with_reducible refine (withylaw03_Ref.calls t307 t308 t309 t310 t344 t345 t346 t347 _ A61.out).mono ?_
  rintro e w75 ⟨rfl, hb⟩
  refine ⟨_, rfl, ?_⟩
  replace BK300 := bb BK300 hb
  replace BK301 := bb BK301 hb
  replace BK302 := bb BK302 hb
  replace BK325 := bb BK325 hb
  replace BK332 := bb BK332 hb
  replace HB := as_ (below_step bA hb)
  (try clear hb)
  (try clear hb2)
  (try clear hk)
  (try clear hi)
  refine hK.out _ _ ⟨(blk_cell BK300.out 0).trans rfl, (blk_cell BK300.out 1).trans rfl, (blk_cell BK300.out 2).trans rfl, (blk_cell BK300.out 3).trans rfl, (blk_cell BK301.out 0).trans rfl, (blk_cell BK301.out 1).trans rfl, (blk_cell BK301.out 2).trans rfl, (blk_cell BK301.out 3).trans rfl⟩ (fun hHeld => ?_)
  clear hK K
  refine norm_ (a' := ?_) ?_ ?_
  rotate_left
  ·show Act.put _ (some 68) _ = _
   simp only [Act.put, List.setIfInBounds_toArray, List.set_cons_zero, List.set_cons_succ, i64_w, i32_w]
   rfl
  refine one_ (i := 13) (N := some 69) #[tt, tt, tt, tt, tt, tt, tt, tt, tt, tt, tt, tt, tt, tt, ff, ff, ff, ff, ff, ff, ff, ff, ff, ff, ff, ff, ff] rfl rfl (one_of HT_.out (by kernel_rfl)) (by decide) (fun K hK => ?_)
  refine goes_ Tryd.func16 (by kernel_rfl) rfl #[.agg #[.int .i64 t344, .int .i64 t345, .int .u64 t346, .string t347]] (by rfl) rfl rfl aO ?_
  with_reducible refine (withyref03_Right.calls t344 t345 t346 t347 true _ A62.out).mono ?_
  rintro e w76 ⟨rfl, hb⟩
  refine ⟨_, rfl, ?_⟩
  replace BK300 := bb BK300 hb
  replace BK301 := bb BK301 hb
  replace BK302 := bb BK302 hb
  replace BK325 := bb BK325 hb
  replace BK332 := bb BK332 hb
  replace HB := as_ (below_step bA hb)
  (try clear hb)
  (try clear hb2)
  (try clear hk)
  (try clear hi)
  refine hK.out _ _ ⟨(blk_cell BK300.out 0).trans rfl, (blk_cell BK300.out 1).trans rfl, (blk_cell BK300.out 2).trans rfl, (blk_cell BK300.out 3).trans rfl, (blk_cell BK301.out 0).trans rfl, (blk_cell BK301.out 1).trans rfl, (blk_cell BK301.out 2).trans rfl, (blk_cell BK301.out 3).trans rfl⟩ (fun hHeld => ?_)
  clear hK K
  refine norm_ (a' := ?_) ?_ ?_
  rotate_left
  ·show Act.put _ (some 69) _ = _
   simp only [Act.put, List.setIfInBounds_toArray, List.set_cons_zero, List.set_cons_succ, i64_w, i32_w]
   rfl
  refine pure_ (i := 14) (N := some 70) (v := ?_) (a' := ?_) #[tt, tt, tt, tt, tt, tt, tt, tt, tt, tt, tt, tt, tt, tt, tt, ff, ff, ff, ff, ff, ff, ff, ff, ff, ff, ff, ff] rfl rfl (any_of HT_.out (by kernel_rfl)) (fun _ _ _ h => h) (Or.inl ⟨by rfl, ?_⟩) ?_ ?_
  rotate_left
  ·intro w'
   go_simp
   with_reducible rfl
  rotate_left
  ·exact aP
  refine pure_ (i := 15) (N := some 71) (v := ?_) (a' := ?_) #[tt, tt, tt, tt, tt, tt, tt, tt, tt, tt, tt, tt, tt, tt, tt, tt, ff, ff, ff, ff, ff, ff, ff, ff, ff, ff, ff] rfl rfl (any_of HT_.out (by kernel_rfl)) (fun _ _ _ h => h) (Or.inl ⟨by rfl, ?_⟩) ?_ ?_
  rotate_left
  ·intro w'
   go_simp
   with_reducible rfl
  rotate_left
  ·exact aP
  refine take_ (i := 16) (N := some 72) (v := ?_) (a' := ?_) #[tt, tt, tt, tt, tt, tt, tt, tt, tt, tt, tt, tt, tt, tt, tt, tt, tt, ff, ff, ff, ff, ff, ff, ff, ff, ff, ff] rfl rfl (take_ofW HT_.out HW_.out (by kernel_rfl)) (fun _ _ _ h => h) (Or.inl ⟨by rfl, ?_⟩) hHeld ?_ ?_
  rotate_left
  ·rintro w' ⟨s0, s1, s2, s3, s4, s5, s6, s7⟩
   go_simp
   with_reducible rfl
  rotate_left
  ·exact aP
  refine take_ (i := 17) (N := some 73) (v := ?_) (a' := ?_) #[tt, tt, tt, tt, tt, tt, tt, tt, tt, tt, tt, tt, tt, tt, tt, tt, tt, tt, ff, ff, ff, ff, ff, ff, ff, ff, ff] rfl rfl (take_ofW HT_.out HW_.out (by kernel_rfl)) (fun _ _ _ h => h) (Or.inl ⟨by rfl, ?_⟩) hHeld ?_ ?_
  rotate_left
  ·rintro w' ⟨s0, s1, s2, s3, s4, s5, s6, s7⟩
   go_simp
   with_reducible rfl
  rotate_left
  ·exact aP
  refine take_ (i := 19) (N := some 75) (v := ?_) (a' := ?_) #[tt, tt, tt, tt, tt, tt, tt, tt, tt, tt, tt, tt, tt, tt, tt, tt, tt, tt, ff, tt, ff, ff, ff, ff, ff, ff, ff] rfl rfl (take_ofW HT_.out HW_.out (by kernel_rfl)) (fun _ _ _ h => h) (Or.inl ⟨by rfl, ?_⟩) hHeld ?_ ?_
  rotate_left
  ·rintro w' ⟨s0, s1, s2, s3, s4, s5, s6, s7⟩
   go_simp
   with_reducible rfl
  rotate_left
  ·exact aP
  refine take_ (i := 21) (N := some 77) (v := ?_) (a' := ?_) #[tt, tt, tt, tt, tt, tt, tt, tt, tt, tt, tt, tt, tt, tt, tt, tt, tt, tt, ff, tt, ff, tt, ff, ff, ff, ff, ff] rfl rfl (take_ofW HT_.out HW_.out (by kernel_rfl)) (fun _ _ _ h => h) (Or.inl ⟨by rfl, ?_⟩) hHeld ?_ ?_
  rotate_left
  ·rintro w' ⟨s0, s1, s2, s3, s4, s5, s6, s7⟩
   go_simp
   with_reducible rfl
  rotate_left
  ·exact aP
  refine one_ (i := 18) (N := some 74) #[tt, tt, tt, tt, tt, tt, tt, tt, tt, tt, tt, tt, tt, tt, tt, tt, tt, tt, tt, tt, ff, tt, ff, ff, ff, ff, ff] rfl rfl (one_of HT_.out (by kernel_rfl)) (by decide) (fun K hK => ?_)
  refine goes_ Tryd.func17 (by kernel_rfl) rfl #[.agg #[.int .i64 t303, .int .i64 t304, .int .u64 t305, .string t306], .agg #[.int .i64 t307, .int .i64 t308, .int .u64 t309, .string t310]] (by rfl) rfl rfl aO ?_
  with_reducible refine (col_Compare.calls k t303 t304 t305 t306 t307 t308 t309 t310 t349 _ A64.out).mono ?_
  rintro e w77 ⟨rfl, hb⟩
  refine ⟨_, rfl, ?_⟩
  replace BK300 := bb BK300 hb
  replace BK301 := bb BK301 hb
  replace BK302 := bb BK302 hb
  replace BK325 := bb BK325 hb
  replace BK332 := bb BK332 hb
  replace HB := as_ (below_step bA hb)
  (try clear hb)
  (try clear hb2)
  (try clear hk)
  (try clear hi)
  refine hK.out _ _ ⟨(blk_cell BK300.out 0).trans rfl, (blk_cell BK300.out 1).trans rfl, (blk_cell BK300.out 2).trans rfl, (blk_cell BK300.out 3).trans rfl, (blk_cell BK301.out 0).trans rfl, (blk_cell BK301.out 1).trans rfl, (blk_cell BK301.out 2).trans rfl, (blk_cell BK301.out 3).trans rfl⟩ (fun hHeld => ?_)
  clear hK K
  refine norm_ (a' := ?_) ?_ ?_
  rotate_left
  ·show Act.put _ (some 74) _ = _
   simp only [Act.put, List.setIfInBounds_toArray, List.set_cons_zero, List.set_cons_succ, i64_w, i32_w]
   rfl
  refine one_ (i := 20) (N := some 76) #[tt, tt, tt, tt, tt, tt, tt, tt, tt, tt, tt, tt, tt, tt, tt, tt, tt, tt, tt, tt, tt, tt, ff, ff, ff, ff, ff] rfl rfl (one_of HT_.out (by kernel_rfl)) (by decide) (fun K hK => ?_)
  refine goes_ Tryd.func12 (by kernel_rfl) rfl #[.agg #[.int .i64 t303, .int .i64 t304, .int .u64 t305, .string t306]] (by rfl) rfl rfl aO ?_
  with_reducible refine (withylaw03_Ref.calls t303 t304 t305 t306 t350 t351 t352 t353 _ A65.out).mono ?_
  rintro e w78 ⟨rfl, hb⟩
  refine ⟨_, rfl, ?_⟩
  replace BK300 := bb BK300 hb
  replace BK301 := bb BK301 hb
  replace BK302 := bb BK302 hb
  replace BK325 := bb BK325 hb
  replace BK332 := bb BK332 hb
  replace HB := as_ (below_step bA hb)
  (try clear hb)
  (try clear hb2)
  (try clear hk)
  (try clear hi)
  refine hK.out _ _ ⟨(blk_cell BK300.out 0).trans rfl, (blk_cell BK300.out 1).trans rfl, (blk_cell BK300.out 2).trans rfl, (blk_cell BK300.out 3).trans rfl, (blk_cell BK301.out 0).trans rfl, (blk_cell BK301.out 1).trans rfl, (blk_cell BK301.out 2).trans rfl, (blk_cell BK301.out 3).trans rfl⟩ (fun hHeld => ?_)
  clear hK K
  refine norm_ (a' := ?_) ?_ ?_
  rotate_left
  ·show Act.put _ (some 76) _ = _
   simp only [Act.put, List.setIfInBounds_toArray, List.set_cons_zero, List.set_cons_succ, i64_w, i32_w]
   rfl
  refine one_ (i := 22) (N := some 78) #[tt, tt, tt, tt, tt, tt, tt, tt, tt, tt, tt, tt, tt, tt, tt, tt, tt, tt, tt, tt, tt, tt, tt, ff, ff, ff, ff] rfl rfl (one_of HT_.out (by kernel_rfl)) (by decide) (fun K hK => ?_)
  refine goes_ Tryd.func12 (by kernel_rfl) rfl #[.agg #[.int .i64 t307, .int .i64 t308, .int .u64 t309, .string t310]] (by rfl) rfl rfl aO ?_
  with_reducible refine (withylaw03_Ref.calls t307 t308 t309 t310 t354 t355 t356 t357 _ A66.out).mono ?_
  rintro e w79 ⟨rfl, hb⟩
  refine ⟨_, rfl, ?_⟩
  replace BK300 := bb BK300 hb
  replace BK301 := bb BK301 hb
  replace BK302 := bb BK302 hb
  replace BK325 := bb BK325 hb
  replace BK332 := bb BK332 hb
  replace HB := as_ (below_step bA hb)
  (try clear hb)
  (try clear hb2)
  (try clear hk)
  (try clear hi)
  refine hK.out _ _ ⟨(blk_cell BK300.out 0).trans rfl, (blk_cell BK300.out 1).trans rfl, (blk_cell BK300.out 2).trans rfl, (blk_cell BK300.out 3).trans rfl, (blk_cell BK301.out 0).trans rfl, (blk_cell BK301.out 1).trans rfl, (blk_cell BK301.out 2).trans rfl, (blk_cell BK301.out 3).trans rfl⟩ (fun hHeld => ?_)
  clear hK K
  refine norm_ (a' := ?_) ?_ ?_
  rotate_left
  ·show Act.put _ (some 78) _ = _
   simp only [Act.put, List.setIfInBounds_toArray, List.set_cons_zero, List.set_cons_succ, i64_w, i32_w]
   rfl
  refine one_ (i := 23) (N := some 79) #[tt, tt, tt, tt, tt, tt, tt, tt, tt, tt, tt, tt, tt, tt, tt, tt, tt, tt, tt, tt, tt, tt, tt, tt, ff, ff, ff] rfl rfl (one_of HT_.out (by kernel_rfl)) (by decide) (fun K hK => ?_)
  refine goes_ Tryd.func18 (by kernel_rfl) rfl #[.agg #[.int .i64 t350, .int .i64 t351, .int .u64 t352, .string t353], .agg #[.int .i64 t354, .int .i64 t355, .int .u64 t356, .string t357]] (by rfl) rfl rfl aO ?_
  with_reducible refine (withyref03_Compare.calls t350 t351 t352 t353 t354 t355 t356 t357 t358 _ A67.out).mono ?_
  rintro e w80 ⟨rfl, hb⟩
  refine ⟨_, rfl, ?_⟩
  replace BK300 := bb BK300 hb
  replace BK301 := bb BK301 hb
  replace BK302 := bb BK302 hb
  replace BK325 := bb BK325 hb
  replace BK332 := bb BK332 hb
  replace HB := as_ (below_step bA hb)
  (try clear hb)
  (try clear hb2)
  (try clear hk)
  (try clear hi)
  refine hK.out _ _ ⟨(blk_cell BK300.out 0).trans rfl, (blk_cell BK300.out 1).trans rfl, (blk_cell BK300.out 2).trans rfl, (blk_cell BK300.out 3).trans rfl, (blk_cell BK301.out 0).trans rfl, (blk_cell BK301.out 1).trans rfl, (blk_cell BK301.out 2).trans rfl, (blk_cell BK301.out 3).trans rfl⟩ (fun hHeld => ?_)
  clear hK K
  refine norm_ (a' := ?_) ?_ ?_
  rotate_left
  ·show Act.put _ (some 79) _ = _
   simp only [Act.put, List.setIfInBounds_toArray, List.set_cons_zero, List.set_cons_succ, i64_w, i32_w]
   rfl
  refine pure_ (i := 24) (N := some 80) (v := ?_) (a' := ?_) #[tt, tt, tt, tt, tt, tt, tt, tt, tt, tt, tt, tt, tt, tt, tt, tt, tt, tt, tt, tt, tt, tt, tt, tt, tt, ff, ff] rfl rfl (any_of HT_.out (by kernel_rfl)) (fun _ _ _ h => h) (Or.inl ⟨by rfl, ?_⟩) ?_ ?_
  rotate_left
  ·intro w'
   go_simp
   with_reducible rfl
  rotate_left
  ·exact aP
  refine pure_ (i := 25) (N := some 81) (v := ?_) (a' := ?_) #[tt, tt, tt, tt, tt, tt, tt, tt, tt, tt, tt, tt, tt, tt, tt, tt, tt, tt, tt, tt, tt, tt, tt, tt, tt, tt, ff] rfl rfl (any_of HT_.out (by kernel_rfl)) (fun _ _ _ h => h) (Or.inl ⟨by rfl, ?_⟩) ?_ ?_
  rotate_left
  ·intro w'
   go_simp
   with_reducible rfl
  rotate_left
  ·exact aP
  refine pure_ (i := 26) (N := some 82) (v := ?_) (a' := ?_) #[tt, tt, tt, tt, tt, tt, tt, tt, tt, tt, tt, tt, tt, tt, tt, tt, tt, tt, tt, tt, tt, tt, tt, tt, tt, tt, tt] rfl rfl (any_of HT_.out (by kernel_rfl)) (fun _ _ _ h => h) (Or.inl ⟨by rfl, ?_⟩) ?_ ?_
  rotate_left
  ·intro w'
   go_simp
   with_reducible rfl
  rotate_left
  ·exact aP
  refine done_ (done_of HT_.out (by kernel_rfl)) ?_
  try go_wp2
  go_meet
  case rel => exact ⟨_, ((t349 != t358)), (by first | rfl | (simp; done) | (simp [*]; done)), H', ⟨by first | omega | exact Nat.le_refl _⟩, ⟨by refine bx ?_; exact BK300.out⟩, ⟨by refine bx ?_; exact BK301.out⟩, ⟨by refine bx ?_; exact BK302.out⟩, ⟨by refine bx ?_; exact BK325.out⟩, ⟨by refine bx ?_; exact BK332.out⟩, ⟨by repeat (first | (with_reducible first | exact HB.out | apply below_alloc | apply pw_below_drewN | apply below_drew1 | refine below_set ?_ GE300.out | refine below_set ?_ GE301.out | refine below_set ?_ GE302.out | refine below_set ?_ GE325.out | refine below_set ?_ GE332.out) | exact HB.out)⟩⟩
 case rest =>
  clear HC15
  try clear c1
  try clear p2
  try clear c6
  try clear c12
  try clear c15
  try clear c16
  try clear c60
  obtain ⟨kq, x82_14, rfl, HA, HJ14, BK300, BK301, BK302, BK325, BK332, HB⟩ := hcut
  cases kq with
  | zero => exact absurd HA.out (by simp [withylaw03_ColTells.j0])
  | succ kj14 =>
   have H := HA.out
   clear HA
   simp only [withylaw03_ColTells.j0] at H
   by_cases c97 : x82_14 = true
   ·subst c97
    have H1 : (none) = some r := by rw [if_pos rfl] at H; exact H
    clear H
    have H := H1
    clear H1
    exact absurd H (by simp)
   replace c97 := Bool.eq_false_iff.mpr c97
   subst c97
   have H1 : (if t311.toList = t317.toList then (if t312 = t318 then ((withylaw03_Ref.f t319 t320 t321 t322).bind fun bt359 => (if (bt359.1 == t326 && (bt359.2.1 == t327 && (bt359.2.2.1 == t328 && (bt359.2.2.2.toList == t329.toList)))) = true then (if t323 = t330 then (if t324 = t331 then ((withylaw03_fixed.f kj14).bind fun t363 => (some t363)) else (none)) else (none)) else (none))) else (none)) else (none)) = some r := by rw [if_neg (show ¬ (false = true) by decide)] at H; exact H
   clear H
   have H := H1
   clear H1
   by_cases c98 : t311.toList = t317.toList
   rotate_left
   ·rw [if_neg c98] at H
    exact absurd H (by simp)
   rw [if_pos c98] at H
   have c98b0 : (t311.toList == t317.toList) = true := beq_iff_eq.mpr c98
   have c98b1 : (t311.toList != t317.toList) = false := bne_eq_false_iff_eq.mpr c98
   clear c98
   by_cases c99 : t312 = t318
   rotate_left
   ·rw [if_neg c99] at H
    exact absurd H (by simp)
   rw [if_pos c99] at H
   have c99b0 : (t312 == t318) = true := beq_iff_eq.mpr c99
   have c99b1 : (t312 != t318) = false := bne_eq_false_iff_eq.mpr c99
   clear c99
   replace H := bM H
   obtain ⟨⟨t359, t360, t361, t362⟩, A1000, H⟩ := H
   replace H : (if (t359 == t326 && (t360 == t327 && (t361 == t328 && (t362.toList == t329.toList)))) = true then (if t323 = t330 then (if t324 = t331 then ((withylaw03_fixed.f kj14).bind fun t363 => (some t363)) else (none)) else (none)) else (none)) = some r := H
   have A100 := Aside0.mk A1000
   clear A1000
   by_cases c101 : (t359 == t326 && (t360 == t327 && (t361 == t328 && (t362.toList == t329.toList)))) = true
   rotate_left
   ·rw [if_neg c101] at H
    exact absurd H (by simp)
   rw [if_pos c101] at H
   have c101b0 : (t359 == t326 && (t360 == t327 && (t361 == t328 && (t362.toList == t329.toList)))) = true := c101
   (try (have c101b8 : (t359 = t326 ∧ t360 = t327 ∧ t361 = t328 ∧ t362.toList = t329.toList) = True := eq_true (by simpa using c101)))
   (try (have c101b1 : t359 = t326 && (t360 == t327 && (t361 == t328 && (t362.toList == t329.toList))) := by simpa using c101))
   (try (have c101b2 : decide (t359 = t326 && (t360 == t327 && (t361 == t328 && (t362.toList == t329.toList)))) = true := by simpa using c101))
   (try (have c101b3 : (t359 == t326 && (t360 == t327 && (t361 == t328 && (t362.toList == t329.toList)))) = true := by simpa using c101))
   clear c101
   by_cases c102 : t323 = t330
   rotate_left
   ·rw [if_neg c102] at H
    exact absurd H (by simp)
   rw [if_pos c102] at H
   have c102b0 : (t323 == t330) = true := beq_iff_eq.mpr c102
   have c102b1 : (t323 != t330) = false := bne_eq_false_iff_eq.mpr c102
   clear c102
   by_cases c103 : t324 = t331
   rotate_left
   ·rw [if_neg c103] at H
    exact absurd H (by simp)
   rw [if_pos c103] at H
   have c103b0 : (t324 == t331) = true := beq_iff_eq.mpr c103
   have c103b1 : (t324 != t331) = false := bne_eq_false_iff_eq.mpr c103
   clear c103
   replace H := bM H
   obtain ⟨t363, A1040, H⟩ := H
   replace H : (some t363) = some r := H
   have A104 := Aside0.mk A1040
   clear A1040
   obtain rfl := Option.some.inj H
   try go_wp2
   replace BK300 := as_ (blk_drew BK300.out)
   replace BK301 := as_ (blk_drew BK301.out)
   replace BK302 := as_ (blk_drew BK302.out)
   replace BK325 := as_ (blk_drew BK325.out)
   replace BK332 := as_ (blk_drew BK332.out)
   replace HB := as_ (below_drew1 HB.out)
   refine start_ (n := 28) (S := fun w' => w'.cell? ⟨gb325, 0, none⟩ = some (.int .i64 t319) ∧ w'.cell? ⟨gb325, 1, none⟩ = some (.int .i64 t320) ∧ w'.cell? ⟨gb325, 2, none⟩ = some (.int .u64 t321) ∧ w'.cell? ⟨gb325, 3, none⟩ = some (.string t322) ∧ w'.cell? ⟨gb332, 0, none⟩ = some (.int .i64 t326) ∧ w'.cell? ⟨gb332, 1, none⟩ = some (.int .i64 t327) ∧ w'.cell? ⟨gb332, 2, none⟩ = some (.int .u64 t328) ∧ w'.cell? ⟨gb332, 3, none⟩ = some (.string t329)) (ds := []) #[ff, ff, ff, ff, ff, ff, ff, ff, ff, ff, ff, ff, ff, ff, ff, ff, ff, ff, ff, ff, ff, ff, ff, ff, ff, ff, ff, ff] (by kernel_rfl) rfl rfl ⟨(blk_cell BK325.out 0).trans rfl, (blk_cell BK325.out 1).trans rfl, (blk_cell BK325.out 2).trans rfl, (blk_cell BK325.out 3).trans rfl, (blk_cell BK332.out 0).trans rfl, (blk_cell BK332.out 1).trans rfl, (blk_cell BK332.out 2).trans rfl, (blk_cell BK332.out 3).trans rfl⟩ (fun hHeld => ?_); refine with_tabW withylaw03_ColTells.tab10 withylaw03_ColTells.bits10 (fun HT_ HW_ => ?_)
   generalize wc.drew = w105 at BK300 BK301 BK302 BK325 BK332 HB hHeld ⊢
   refine pure_ (i := 0) (N := some 83) (v := ?_) (a' := ?_) #[tt, ff, ff, ff, ff, ff, ff, ff, ff, ff, ff, ff, ff, ff, ff, ff, ff, ff, ff, ff, ff, ff, ff, ff, ff, ff, ff, ff] rfl rfl (any_of HT_.out (by kernel_rfl)) (fun _ _ _ h => h) (Or.inl ⟨by rfl, ?_⟩) ?_ ?_
   rotate_left
   ·intro w'
    go_simp
    with_reducible rfl
   rotate_left
   ·exact aP
   refine pure_ (i := 1) (N := some 84) (v := ?_) (a' := ?_) #[tt, tt, ff, ff, ff, ff, ff, ff, ff, ff, ff, ff, ff, ff, ff, ff, ff, ff, ff, ff, ff, ff, ff, ff, ff, ff, ff, ff] rfl rfl (any_of HT_.out (by kernel_rfl)) (fun _ _ _ h => h) (Or.inl ⟨by rfl, ?_⟩) ?_ ?_
   rotate_left
   ·intro w'
    go_simp
    with_reducible rfl
   rotate_left
   ·exact aP
   refine pure_ (i := 2) (N := some 85) (v := ?_) (a' := ?_) #[tt, tt, tt, ff, ff, ff, ff, ff, ff, ff, ff, ff, ff, ff, ff, ff, ff, ff, ff, ff, ff, ff, ff, ff, ff, ff, ff, ff] rfl rfl (any_of HT_.out (by kernel_rfl)) (fun _ _ _ h => h) (Or.inl ⟨by rfl, ?_⟩) ?_ ?_
   rotate_left
   ·intro w'
    go_simp
    with_reducible rfl
   rotate_left
   ·exact aP
   refine pure_ (i := 3) (N := some 86) (v := ?_) (a' := ?_) #[tt, tt, tt, tt, ff, ff, ff, ff, ff, ff, ff, ff, ff, ff, ff, ff, ff, ff, ff, ff, ff, ff, ff, ff, ff, ff, ff, ff] rfl rfl (any_of HT_.out (by kernel_rfl)) (fun _ _ _ h => h) (Or.inl ⟨by rfl, ?_⟩) ?_ ?_
   rotate_left
   ·intro w'
    go_simp
    with_reducible rfl
   rotate_left
   ·exact aP
   refine pure_ (i := 4) (N := some 87) (v := ?_) (a' := ?_) #[tt, tt, tt, tt, tt, ff, ff, ff, ff, ff, ff, ff, ff, ff, ff, ff, ff, ff, ff, ff, ff, ff, ff, ff, ff, ff, ff, ff] rfl rfl (any_of HT_.out (by kernel_rfl)) (fun _ _ _ h => h) (Or.inl ⟨by rfl, ?_⟩) ?_ ?_
   rotate_left
   ·intro w'
    go_simp
    with_reducible rfl
   rotate_left
   ·exact aP
   refine pure_ (i := 5) (N := some 88) (v := ?_) (a' := ?_) #[tt, tt, tt, tt, tt, tt, ff, ff, ff, ff, ff, ff, ff, ff, ff, ff, ff, ff, ff, ff, ff, ff, ff, ff, ff, ff, ff, ff] rfl rfl (any_of HT_.out (by kernel_rfl)) (fun _ _ _ h => h) (Or.inl ⟨by rfl, ?_⟩) ?_ ?_
   rotate_left
   ·intro w'
    go_simp
    with_reducible rfl
   rotate_left
   ·exact aP
   refine pure_ (i := 6) (N := some 89) (v := ?_) (a' := ?_) #[tt, tt, tt, tt, tt, tt, tt, ff, ff, ff, ff, ff, ff, ff, ff, ff, ff, ff, ff, ff, ff, ff, ff, ff, ff, ff, ff, ff] rfl rfl (any_of HT_.out (by kernel_rfl)) (fun _ _ _ h => h) (Or.inl ⟨by rfl, ?_⟩) ?_ ?_
   rotate_left
   ·intro w'
    go_simp
    with_reducible rfl
   rotate_left
   ·exact aP
   refine pure_ (i := 7) (N := some 90) (v := ?_) (a' := ?_) #[tt, tt, tt, tt, tt, tt, tt, tt, ff, ff, ff, ff, ff, ff, ff, ff, ff, ff, ff, ff, ff, ff, ff, ff, ff, ff, ff, ff] rfl rfl (any_of HT_.out (by kernel_rfl)) (fun _ _ _ h => h) (Or.inl ⟨by rfl, ?_⟩) ?_ ?_
   rotate_left
   ·intro w'
    go_simp
    with_reducible rfl
   rotate_left
   ·exact aP
   refine pure_ (i := 8) (N := some 91) (v := ?_) (a' := ?_) #[tt, tt, tt, tt, tt, tt, tt, tt, tt, ff, ff, ff, ff, ff, ff, ff, ff, ff, ff, ff, ff, ff, ff, ff, ff, ff, ff, ff] rfl rfl (any_of HT_.out (by kernel_rfl)) (fun _ _ _ h => h) (Or.inl ⟨by rfl, ?_⟩) ?_ ?_
   rotate_left
   ·intro w'
    go_simp
    with_reducible rfl
   rotate_left
   ·exact aP
   refine take_ (i := 9) (N := some 92) (v := ?_) (a' := ?_) #[tt, tt, tt, tt, tt, tt, tt, tt, tt, tt, ff, ff, ff, ff, ff, ff, ff, ff, ff, ff, ff, ff, ff, ff, ff, ff, ff, ff] rfl rfl (take_ofW HT_.out HW_.out (by kernel_rfl)) (fun _ _ _ h => h) (Or.inl ⟨by rfl, ?_⟩) hHeld ?_ ?_
   rotate_left
   ·rintro w' ⟨s0, s1, s2, s3, s4, s5, s6, s7⟩
    go_simp
    with_reducible rfl
   rotate_left
   ·exact aP
   refine take_ (i := 11) (N := some 94) (v := ?_) (a' := ?_) #[tt, tt, tt, tt, tt, tt, tt, tt, tt, tt, ff, tt, ff, ff, ff, ff, ff, ff, ff, ff, ff, ff, ff, ff, ff, ff, ff, ff] rfl rfl (take_ofW HT_.out HW_.out (by kernel_rfl)) (fun _ _ _ h => h) (Or.inl ⟨by rfl, ?_⟩) hHeld ?_ ?_
   rotate_left
   ·rintro w' ⟨s0, s1, s2, s3, s4, s5, s6, s7⟩
    go_simp
    with_reducible rfl
   rotate_left
   ·exact aP
   refine one_ (i := 10) (N := some 93) #[tt, tt, tt, tt, tt, tt, tt, tt, tt, tt, tt, tt, ff, ff, ff, ff, ff, ff, ff, ff, ff, ff, ff, ff, ff, ff, ff, ff] rfl rfl (one_of HT_.out (by kernel_rfl)) (by decide) (fun K hK => ?_)
   refine goes_ Tryd.func12 (by kernel_rfl) rfl #[.agg #[.int .i64 t319, .int .i64 t320, .int .u64 t321, .string t322]] (by rfl) rfl rfl aO ?_
   with_reducible refine (withylaw03_Ref.calls t319 t320 t321 t322 t359 t360 t361 t362 _ A100.out).mono ?_
   rintro e w106 ⟨rfl, hb⟩
   refine ⟨_, rfl, ?_⟩
   replace BK300 := bb BK300 hb
   replace BK301 := bb BK301 hb
   replace BK302 := bb BK302 hb
   replace BK325 := bb BK325 hb
   replace BK332 := bb BK332 hb
   replace HB := as_ (below_step bA hb)
   (try clear hb)
   (try clear hb2)
   (try clear hk)
   (try clear hi)
   refine hK.out _ _ ⟨(blk_cell BK325.out 0).trans rfl, (blk_cell BK325.out 1).trans rfl, (blk_cell BK325.out 2).trans rfl, (blk_cell BK325.out 3).trans rfl, (blk_cell BK332.out 0).trans rfl, (blk_cell BK332.out 1).trans rfl, (blk_cell BK332.out 2).trans rfl, (blk_cell BK332.out 3).trans rfl⟩ (fun hHeld => ?_)
   clear hK K
   refine norm_ (a' := ?_) ?_ ?_
   rotate_left
   ·show Act.put _ (some 93) _ = _
    simp only [Act.put, List.setIfInBounds_toArray, List.set_cons_zero, List.set_cons_succ, i64_w, i32_w]
    rfl
   refine pure_ (i := 12) (N := some 95) (v := ?_) (a' := ?_) #[tt, tt, tt, tt, tt, tt, tt, tt, tt, tt, tt, tt, tt, ff, ff, ff, ff, ff, ff, ff, ff, ff, ff, ff, ff, ff, ff, ff] rfl rfl (any_of HT_.out (by kernel_rfl)) (fun _ _ _ h => h) (Or.inl ⟨by rfl, ?_⟩) ?_ ?_
   rotate_left
   ·intro w'
    go_simp
    with_reducible rfl
   rotate_left
   ·exact aP
   refine pure_ (i := 13) (N := some 96) (v := ?_) (a' := ?_) #[tt, tt, tt, tt, tt, tt, tt, tt, tt, tt, tt, tt, tt, tt, ff, ff, ff, ff, ff, ff, ff, ff, ff, ff, ff, ff, ff, ff] rfl rfl (any_of HT_.out (by kernel_rfl)) (fun _ _ _ h => h) (Or.inl ⟨by rfl, ?_⟩) ?_ ?_
   rotate_left
   ·intro w'
    go_simp
    with_reducible rfl
   rotate_left
   ·exact aP
   refine pure_ (i := 14) (N := some 97) (v := ?_) (a' := ?_) #[tt, tt, tt, tt, tt, tt, tt, tt, tt, tt, tt, tt, tt, tt, tt, ff, ff, ff, ff, ff, ff, ff, ff, ff, ff, ff, ff, ff] rfl rfl (any_of HT_.out (by kernel_rfl)) (fun _ _ _ h => h) (Or.inl ⟨by rfl, ?_⟩) ?_ ?_
   rotate_left
   ·intro w'
    go_simp
    with_reducible rfl
   rotate_left
   ·exact aP
   refine pure_ (i := 15) (N := some 98) (v := ?_) (a' := ?_) #[tt, tt, tt, tt, tt, tt, tt, tt, tt, tt, tt, tt, tt, tt, tt, tt, ff, ff, ff, ff, ff, ff, ff, ff, ff, ff, ff, ff] rfl rfl (any_of HT_.out (by kernel_rfl)) (fun _ _ _ h => h) (Or.inl ⟨by rfl, ?_⟩) ?_ ?_
   rotate_left
   ·intro w'
    go_simp
    with_reducible rfl
   rotate_left
   ·exact aP
   refine pure_ (i := 16) (N := some 99) (v := ?_) (a' := ?_) #[tt, tt, tt, tt, tt, tt, tt, tt, tt, tt, tt, tt, tt, tt, tt, tt, tt, ff, ff, ff, ff, ff, ff, ff, ff, ff, ff, ff] rfl rfl (any_of HT_.out (by kernel_rfl)) (fun _ _ _ h => h) (Or.inl ⟨by rfl, ?_⟩) ?_ ?_
   rotate_left
   ·intro w'
    go_simp
    with_reducible rfl
   rotate_left
   ·exact aP
   refine pure_ (i := 17) (N := some 100) (v := ?_) (a' := ?_) #[tt, tt, tt, tt, tt, tt, tt, tt, tt, tt, tt, tt, tt, tt, tt, tt, tt, tt, ff, ff, ff, ff, ff, ff, ff, ff, ff, ff] rfl rfl (any_of HT_.out (by kernel_rfl)) (fun _ _ _ h => h) (Or.inl ⟨by rfl, ?_⟩) ?_ ?_
   rotate_left
   ·intro w'
    go_simp
    with_reducible rfl
   rotate_left
   ·exact aP
   refine pure_ (i := 18) (N := some 101) (v := ?_) (a' := ?_) #[tt, tt, tt, tt, tt, tt, tt, tt, tt, tt, tt, tt, tt, tt, tt, tt, tt, tt, tt, ff, ff, ff, ff, ff, ff, ff, ff, ff] rfl rfl (any_of HT_.out (by kernel_rfl)) (fun _ _ _ h => h) (Or.inl ⟨by rfl, ?_⟩) ?_ ?_
   rotate_left
   ·intro w'
    go_simp
    with_reducible rfl
   rotate_left
   ·exact aP
   refine pure_ (i := 19) (N := some 102) (v := ?_) (a' := ?_) #[tt, tt, tt, tt, tt, tt, tt, tt, tt, tt, tt, tt, tt, tt, tt, tt, tt, tt, tt, tt, ff, ff, ff, ff, ff, ff, ff, ff] rfl rfl (any_of HT_.out (by kernel_rfl)) (fun _ _ _ h => h) (Or.inl ⟨by rfl, ?_⟩) ?_ ?_
   rotate_left
   ·intro w'
    go_simp
    with_reducible rfl
   rotate_left
   ·exact aP
   refine pure_ (i := 20) (N := some 103) (v := ?_) (a' := ?_) #[tt, tt, tt, tt, tt, tt, tt, tt, tt, tt, tt, tt, tt, tt, tt, tt, tt, tt, tt, tt, tt, ff, ff, ff, ff, ff, ff, ff] rfl rfl (any_of HT_.out (by kernel_rfl)) (fun _ _ _ h => h) (Or.inl ⟨by rfl, ?_⟩) ?_ ?_
   rotate_left
   ·intro w'
    go_simp
    with_reducible rfl
   rotate_left
   ·exact aP
   refine pure_ (i := 21) (N := some 104) (v := ?_) (a' := ?_) #[tt, tt, tt, tt, tt, tt, tt, tt, tt, tt, tt, tt, tt, tt, tt, tt, tt, tt, tt, tt, tt, tt, ff, ff, ff, ff, ff, ff] rfl rfl (any_of HT_.out (by kernel_rfl)) (fun _ _ _ h => h) (Or.inl ⟨by rfl, ?_⟩) ?_ ?_
   rotate_left
   ·intro w'
    go_simp
    with_reducible rfl
   rotate_left
   ·exact aP
   refine pure_ (i := 22) (N := some 105) (v := ?_) (a' := ?_) #[tt, tt, tt, tt, tt, tt, tt, tt, tt, tt, tt, tt, tt, tt, tt, tt, tt, tt, tt, tt, tt, tt, tt, ff, ff, ff, ff, ff] rfl rfl (any_of HT_.out (by kernel_rfl)) (fun _ _ _ h => h) (Or.inl ⟨by rfl, ?_⟩) ?_ ?_
   rotate_left
   ·intro w'
    go_simp
    with_reducible rfl
   rotate_left
   ·exact aP
   refine pure_ (i := 23) (N := some 106) (v := ?_) (a' := ?_) #[tt, tt, tt, tt, tt, tt, tt, tt, tt, tt, tt, tt, tt, tt, tt, tt, tt, tt, tt, tt, tt, tt, tt, tt, ff, ff, ff, ff] rfl rfl (any_of HT_.out (by kernel_rfl)) (fun _ _ _ h => h) (Or.inl ⟨by rfl, ?_⟩) ?_ ?_
   rotate_left
   ·intro w'
    go_simp
    with_reducible rfl
   rotate_left
   ·exact aP
   refine pure_ (i := 24) (N := some 107) (v := ?_) (a' := ?_) #[tt, tt, tt, tt, tt, tt, tt, tt, tt, tt, tt, tt, tt, tt, tt, tt, tt, tt, tt, tt, tt, tt, tt, tt, tt, ff, ff, ff] rfl rfl (any_of HT_.out (by kernel_rfl)) (fun _ _ _ h => h) (Or.inl ⟨by rfl, ?_⟩) ?_ ?_
   rotate_left
   ·intro w'
    go_simp
    with_reducible rfl
   rotate_left
   ·exact aP
   refine one_ (i := 25) (N := some 108) #[tt, tt, tt, tt, tt, tt, tt, tt, tt, tt, tt, tt, tt, tt, tt, tt, tt, tt, tt, tt, tt, tt, tt, tt, tt, tt, ff, ff] rfl rfl (one_of HT_.out (by kernel_rfl)) (by decide) (fun K hK => ?_)
   refine goes_ Tryd.func19 (by kernel_rfl) rfl #[] (by rfl) rfl rfl aO ?_
   with_reducible refine (withylaw03_fixed.calls kj14  t363 _ A104.out).mono ?_
   rintro e w107 ⟨rfl, hb⟩
   refine ⟨_, rfl, ?_⟩
   replace BK300 := bb BK300 hb
   replace BK301 := bb BK301 hb
   replace BK302 := bb BK302 hb
   replace BK325 := bb BK325 hb
   replace BK332 := bb BK332 hb
   replace HB := as_ (below_step bA hb)
   (try clear hb)
   (try clear hb2)
   (try clear hk)
   (try clear hi)
   refine hK.out _ _ ⟨(blk_cell BK325.out 0).trans rfl, (blk_cell BK325.out 1).trans rfl, (blk_cell BK325.out 2).trans rfl, (blk_cell BK325.out 3).trans rfl, (blk_cell BK332.out 0).trans rfl, (blk_cell BK332.out 1).trans rfl, (blk_cell BK332.out 2).trans rfl, (blk_cell BK332.out 3).trans rfl⟩ (fun hHeld => ?_)
   clear hK K
   refine norm_ (a' := ?_) ?_ ?_
   rotate_left
   ·show Act.put _ (some 108) _ = _
    simp only [Act.put, List.setIfInBounds_toArray, List.set_cons_zero, List.set_cons_succ, i64_w, i32_w]
    rfl
   refine pure_ (i := 26) (N := some 109) (v := ?_) (a' := ?_) #[tt, tt, tt, tt, tt, tt, tt, tt, tt, tt, tt, tt, tt, tt, tt, tt, tt, tt, tt, tt, tt, tt, tt, tt, tt, tt, tt, ff] rfl rfl (any_of HT_.out (by kernel_rfl)) (fun _ _ _ h => h) (Or.inl ⟨by rfl, ?_⟩) ?_ ?_
   rotate_left
   ·intro w'
    go_simp
    with_reducible rfl
   rotate_left
   ·exact aP
   refine pure_ (i := 27) (N := some 6) (v := ?_) (a' := ?_) #[tt, tt, tt, tt, tt, tt, tt, tt, tt, tt, tt, tt, tt, tt, tt, tt, tt, tt, tt, tt, tt, tt, tt, tt, tt, tt, tt, tt] rfl rfl (any_of HT_.out (by kernel_rfl)) (fun _ _ _ h => h) (Or.inl ⟨by rfl, ?_⟩) ?_ ?_
   rotate_left
   ·intro w'
    go_simp
    with_reducible rfl
   rotate_left
   ·exact aP
   refine done_ (done_of HT_.out (by kernel_rfl)) ?_
   try go_wp2
   go_ret
   exact ⟨by first | rfl | (simp [errW_none, errW_some] <;> rfl) | (simp only [← hji6, ← hjs9]; first | rfl | (simp [errW_none, errW_some] <;> rfl)) | (simp [*, errW_none, errW_some] <;> rfl), by repeat (first | (with_reducible first | exact HB.out | apply below_alloc | apply pw_below_drewN | apply below_drew1 | refine below_set ?_ GE300.out | refine below_set ?_ GE301.out | refine below_set ?_ GE302.out | refine below_set ?_ GE325.out | refine below_set ?_ GE332.out) | exact HB.out)⟩
end Go.Proofs.YtjfgeppfkhaliaaDoor.P
