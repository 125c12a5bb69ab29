/- What is proved here: for functions of the Go text, a Lean function each, and that the call comes to just what it answers. Conditions: as each contract names them. Written by wip/tools/myprint.py, a driver of the print of the kit. -/
import Derived.Test.YtnfnmjjdcaphjaaP0
import Derived.Test.YtnfnmjjdcaphjaaP1
import Derived.Test.YtnfnmjjdcaphjaaP2
import Derived.Test.YtnfnmjjdcaphjaaP4
import Derived.Test.YtnfnmjjdcaphjaaP5
import Derived.Test.YtnfnmjjdcaphjaaP6
import Derived.Test.YtnfnmjjdcaphjaaWAbbr
namespace Go.Proofs.Ytnfnmjjdcaphjaa.P
open Go.RowKit Go.Proofs.YtnfnmjjdcaphjaaW.PrintWords Go.Proofs.YtnfnmjjdcaphjaaW.PrintLast Go.Proofs.YtnfnmjjdcaphjaaW.PrintMore Go.Proofs.YtnfnmjjdcaphjaaW.Abbr
-- PACKED
attribute [local go_sem] max2_int min2_int max_two min_two max_three min_three max_four min_four Go.Proofs.YtnfnmjjdcaphjaaLaws.str_leq Go.Proofs.YtnfnmjjdcaphjaaLaws.str_gtr Go.Proofs.YtnfnmjjdcaphjaaLaws.str_geq Go.Proofs.YtnfnmjjdcaphjaaLaws.max2_str Go.Proofs.YtnfnmjjdcaphjaaLaws.min2_str   -- for this text's walks alone
set_option linter.unusedVariables false
set_option linter.unusedSimpArgs false

attribute [local go_sem high] eqA23
/-! ### withylaw07_fixed: function 16 -/
def withylaw07_fixed.f (k : Nat)  : Option (Bool) := (head_Seal.f k 2 0 0 0 3 (⟨#[]⟩ : ByteArray) 128).bind fun bt158 => ((head_Seal.f k 2 0 0 0 3 (⟨#[]⟩ : ByteArray) 100).bind fun bt160 => ((head_Seal.f k 0 0 0 0 0 (⟨#[]⟩ : ByteArray) 128).bind fun bt162 => ((withyref01_Repeat.f k 1 113).bind fun t164 => ((head_Seal.f k 2 0 0 0 3 t164 128).bind fun bt165 => ((withyref01_Repeat.f k 1 113).bind fun t167 => ((head_Seal.f k 0 0 0 0 0 t167 128).bind fun bt168 => ((head_Open.f k bt158.1).bind fun bt170 => ((head_Open.f k (⟨#[]⟩ : ByteArray)).bind fun bt178 => ((withyref01_Repeat.f k 0 128).bind fun t186 => ((head_Open.f k t186).bind fun bt187 => (if (bt158.1.size : Int) = 128 then (if bt158.2 = 0 then (if 0 < (bt158.1.size : Int) then (if (bt bt158.1 0) = 2 then (if 8 < (bt158.1.size : Int) then (if (bt bt158.1 8) = 3 then (if 16 ≤ (bt158.1.size : Int) then ((withyref01_Repeat.f k 0 112).bind fun t195 => (if (bt158.1.extract 16 bt158.1.size).toList = t195.toList then (if bt160.2 = 4 then (if bt162.2 = 3 then (if bt165.2 = 8 then (if bt168.2 = 3 then (if (bt170.1 == 2 && (bt170.2.1 == 0 && (bt170.2.2.1 == 0 && (bt170.2.2.2.1 == 0 && (bt170.2.2.2.2.1 == 3))))) = true then ((withyref01_Repeat.f k 0 112).bind fun t196 => (if bt170.2.2.2.2.2.1.toList = t196.toList then (if bt170.2.2.2.2.2.2 = 0 then (if bt178.2.2.2.2.2.2 = 3 then (if bt187.2.2.2.2.2.2 = 3 then ((head_Right.f k 2 0 0 0 3).bind fun t197 => (if t197 = true then ((head_Right.f k 5 0 0 0 0).bind fun t198 => (if t198 = true then (none) else (some true))) else (none))) else (none)) else (none)) else (none)) else (none))) else (none)) else (none)) else (none)) else (none)) else (none)) else (none))) else (none)) else (none)) else (none)) else (none)) else (none)) else (none)) else (none))))))))))))
theorem withylaw07_fixed.mono : ∀ k, LeO (withylaw07_fixed.f k ) (withylaw07_fixed.f (k + 1) ) := by
 intro  k
 unfold withylaw07_fixed.f
 repeat' first
   | (with_reducible exact head_Open.mono _ _)
   | (with_reducible exact head_Right.mono _ _ _ _ _ _)
   | (with_reducible exact head_Seal.mono _ _ _ _ _ _ _ _)
   | (with_reducible exact withyref01_Repeat.mono _ _ _)
   | (with_reducible exact LeO.refl _)
   | (with_reducible exact LeO.none _)
   | (with_reducible refine LeO.ite ?_ ?_)
   | (with_reducible refine LeO.bind ?_ (fun _ => ?_))
   | exact head_Open.mono _ _
   | exact head_Right.mono _ _ _ _ _ _
   | exact head_Seal.mono _ _ _ _ _ _ _ _
   | exact withyref01_Repeat.mono _ _ _
   | exact LeO.none _
   | refine LeO.ite ?_ ?_
   | refine LeO.bind ?_ (fun _ => ?_)
def withylaw07_fixed.T5 : Bool × List (List Nat × List Nat) := (true, [([], []), ([], []), ([0, 1, 1], [0, 1]), ([2], [2]), ([3], [3]), ([3], [3]), ([4, 2, 0, 1, 2, 3, 4], [4]), ([5, 6, 0, 1, 2, 3, 4, 5, 6], [5])])
def withylaw07_fixed.B5 : List Nat := [0, 0, 3, 7, 15, 15, 31, 127]
theorem withylaw07_fixed.tab5 : rtab .any (opsOf Try.f16 5) = withylaw07_fixed.T5 := by kernel_rfl
theorem withylaw07_fixed.bits5 : waitsOk withylaw07_fixed.T5.2 withylaw07_fixed.B5 = true := by kernel_rfl
def withylaw07_fixed.T10 : Bool × List (List Nat × List Nat) := (true, [([], []), ([0], [0]), ([1], [1]), ([2], [2]), ([3], [3]), ([4, 3], [3, 4]), ([3, 5], [3, 5]), ([6, 3], [6]), ([7], [7]), ([8, 7], [7, 8]), ([9, 7], [7, 9]), ([7, 10], [7, 10]), ([11, 7], [11]), ([12], [12]), ([13, 12], [12, 13]), ([14, 12], [12, 14]), ([12, 15], [12, 15]), ([16, 12], [16]), ([17], [17]), ([18, 17], [17, 18]), ([17, 17], [17]), ([19, 20, 17], [17, 19, 20]), ([17, 21], [17, 21]), ([22, 20], [22]), ([23], [23]), ([24, 23], [23, 24]), ([23, 25], [23, 25]), ([26, 23], [26]), ([27], [27]), ([28, 27], [27, 28]), ([27, 29], [27, 29]), ([30, 27], [30]), ([31], [31]), ([32, 31], [31, 32]), ([31, 33], [31, 33]), ([34, 31], [34]), ([35], [35]), ([36, 35], [35, 36]), ([35, 37], [35, 37]), ([38, 35], [38]), ([39], [39]), ([39], [39]), ([40, 41, 39], [39, 40, 41]), ([39, 42], [39, 42]), ([43, 39], [43]), ([44], [44]), ([44, 44], [44]), ([45, 46, 44], [44, 45, 46]), ([44, 47], [44, 47]), ([48, 46], [48]), ([49], [49]), ([50, 49], [49, 50]), ([49, 51], [49, 51]), ([52, 49], [52]), ([53], [53]), ([54, 53], [53, 54]), ([53, 55], [53, 55]), ([56, 53], [56]), ([57], [57]), ([58, 57], [57, 58]), ([57, 59], [57, 59]), ([60, 57], [60]), ([61], [61]), ([62, 61, 61], [61, 62]), ([61, 63], [61, 63]), ([64, 63], [64]), ([65], [65]), ([66, 65, 65], [65, 66]), ([67, 65], [65, 67]), ([65, 68], [65, 68]), ([69, 67], [69]), ([70], [70]), ([71, 70], [71]), ([72], [72]), ([73, 72, 0, 1, 2, 3, 4, 5, 6, 7, 8, 9, 10, 11, 12, 13, 14, 15, 16, 17, 18, 19, 20, 21, 22, 23, 24, 25, 26, 27, 28, 29, 30, 31, 32, 33, 34, 35, 36, 37, 38, 39, 40, 41, 42, 43, 44, 45, 46, 47, 48, 49, 50, 51, 52, 53, 54, 55, 56, 57, 58, 59, 60, 61, 62, 63, 64, 65, 66, 67, 68, 69, 70, 71, 72, 73], [73])])
def withylaw07_fixed.B10 : List Nat := [0, 1, 3, 7, 15, 31, 63, 127, 255, 511, 1023, 2047, 4095, 8191, 16383, 32767, 65535, 131071, 262143, 524287, 262143, 2097151, 4194303, 8388607, 16777215, 33554431, 67108863, 134217727, 268435455, 536870911, 1073741823, 2147483647, 4294967295, 8589934591, 17179869183, 34359738367, 68719476735, 137438953471, 274877906943, 549755813887, 1099511627775, 1099511627775, 4398046511103, 8796093022207, 17592186044415, 35184372088831, 35184372088831, 140737488355327, 281474976710655, 562949953421311, 1125899906842623, 2251799813685247, 4503599627370495, 9007199254740991, 18014398509481983, 36028797018963967, 72057594037927935, 144115188075855871, 288230376151711743, 576460752303423487, 1152921504606846975, 2305843009213693951, 4611686018427387903, 9223372036854775807, 18446744073709551615, 36893488147419103231, 73786976294838206463, 147573952589676412927, 295147905179352825855, 590295810358705651711, 1180591620717411303423, 2361183241434822606847, 4722366482869645213695, 9444732965739290427391, 18889465931478580854783]
theorem withylaw07_fixed.tab10 : rtab .any (opsOf Try.f16 10) = withylaw07_fixed.T10 := by kernel_rfl
theorem withylaw07_fixed.bits10 : waitsOk withylaw07_fixed.T10.2 withylaw07_fixed.B10 = true := by kernel_rfl
set_option maxHeartbeats 8000000 in
set_option maxRecDepth 100000 in
theorem withylaw07_fixed.calls (k : Nat)  (r : Bool) (w : World) (h : withylaw07_fixed.f k  = some r) :
  Calls Try.prog 16 #[] w fun e w' => e = .returned (.bool r) ∧ Below w.heap.size w w' := by
 have hu23 := Try.underlying23
 have HB := as_ (Below.refl w.heap.size w)
 have H : ((head_Seal.f k 2 0 0 0 3 (⟨#[]⟩ : ByteArray) 128).bind fun bt158 => ((head_Seal.f k 2 0 0 0 3 (⟨#[]⟩ : ByteArray) 100).bind fun bt160 => ((head_Seal.f k 0 0 0 0 0 (⟨#[]⟩ : ByteArray) 128).bind fun bt162 => ((withyref01_Repeat.f k 1 113).bind fun t164 => ((head_Seal.f k 2 0 0 0 3 t164 128).bind fun bt165 => ((withyref01_Repeat.f k 1 113).bind fun t167 => ((head_Seal.f k 0 0 0 0 0 t167 128).bind fun bt168 => ((head_Open.f k bt158.1).bind fun bt170 => ((head_Open.f k (⟨#[]⟩ : ByteArray)).bind fun bt178 => ((withyref01_Repeat.f k 0 128).bind fun t186 => ((head_Open.f k t186).bind fun bt187 => (if (bt158.1.size : Int) = 128 then (if bt158.2 = 0 then (if 0 < (bt158.1.size : Int) then (if (bt bt158.1 0) = 2 then (if 8 < (bt158.1.size : Int) then (if (bt bt158.1 8) = 3 then (if 16 ≤ (bt158.1.size : Int) then ((withyref01_Repeat.f k 0 112).bind fun t195 => (if (bt158.1.extract 16 bt158.1.size).toList = t195.toList then (if bt160.2 = 4 then (if bt162.2 = 3 then (if bt165.2 = 8 then (if bt168.2 = 3 then (if (bt170.1 == 2 && (bt170.2.1 == 0 && (bt170.2.2.1 == 0 && (bt170.2.2.2.1 == 0 && (bt170.2.2.2.2.1 == 3))))) = true then ((withyref01_Repeat.f k 0 112).bind fun t196 => (if bt170.2.2.2.2.2.1.toList = t196.toList then (if bt170.2.2.2.2.2.2 = 0 then (if bt178.2.2.2.2.2.2 = 3 then (if bt187.2.2.2.2.2.2 = 3 then ((head_Right.f k 2 0 0 0 3).bind fun t197 => (if t197 = true then ((head_Right.f k 5 0 0 0 0).bind fun t198 => (if t198 = true then (none) else (some true))) else (none))) else (none)) else (none)) else (none)) else (none))) else (none)) else (none)) else (none)) else (none)) else (none)) else (none))) else (none)) else (none)) else (none)) else (none)) else (none)) else (none)) else (none))))))))))))) = some r := h
 clear h
 replace H := bM H
 obtain ⟨⟨t158, t159⟩, A10, H⟩ := H
 replace H : ((head_Seal.f k 2 0 0 0 3 (⟨#[]⟩ : ByteArray) 100).bind fun bt160 => ((head_Seal.f k 0 0 0 0 0 (⟨#[]⟩ : ByteArray) 128).bind fun bt162 => ((withyref01_Repeat.f k 1 113).bind fun t164 => ((head_Seal.f k 2 0 0 0 3 t164 128).bind fun bt165 => ((withyref01_Repeat.f k 1 113).bind fun t167 => ((head_Seal.f k 0 0 0 0 0 t167 128).bind fun bt168 => ((head_Open.f k t158).bind fun bt170 => ((head_Open.f k (⟨#[]⟩ : ByteArray)).bind fun bt178 => ((withyref01_Repeat.f k 0 128).bind fun t186 => ((head_Open.f k t186).bind fun bt187 => (if (t158.size : Int) = 128 then (if t159 = 0 then (if 0 < (t158.size : Int) then (if (bt t158 0) = 2 then (if 8 < (t158.size : Int) then (if (bt t158 8) = 3 then (if 16 ≤ (t158.size : Int) then ((withyref01_Repeat.f k 0 112).bind fun t195 => (if (t158.extract 16 t158.size).toList = t195.toList then (if bt160.2 = 4 then (if bt162.2 = 3 then (if bt165.2 = 8 then (if bt168.2 = 3 then (if (bt170.1 == 2 && (bt170.2.1 == 0 && (bt170.2.2.1 == 0 && (bt170.2.2.2.1 == 0 && (bt170.2.2.2.2.1 == 3))))) = true then ((withyref01_Repeat.f k 0 112).bind fun t196 => (if bt170.2.2.2.2.2.1.toList = t196.toList then (if bt170.2.2.2.2.2.2 = 0 then (if bt178.2.2.2.2.2.2 = 3 then (if bt187.2.2.2.2.2.2 = 3 then ((head_Right.f k 2 0 0 0 3).bind fun t197 => (if t197 = true then ((head_Right.f k 5 0 0 0 0).bind fun t198 => (if t198 = true then (none) else (some true))) else (none))) else (none)) else (none)) else (none)) else (none))) else (none)) else (none)) else (none)) else (none)) else (none)) else (none))) else (none)) else (none)) else (none)) else (none)) else (none)) else (none)) else (none)))))))))))) = some r := H
 have A1 := Aside0.mk A10
 clear A10
 replace H := bM H
 obtain ⟨⟨t160, t161⟩, A20, H⟩ := H
 replace H : ((head_Seal.f k 0 0 0 0 0 (⟨#[]⟩ : ByteArray) 128).bind fun bt162 => ((withyref01_Repeat.f k 1 113).bind fun t164 => ((head_Seal.f k 2 0 0 0 3 t164 128).bind fun bt165 => ((withyref01_Repeat.f k 1 113).bind fun t167 => ((head_Seal.f k 0 0 0 0 0 t167 128).bind fun bt168 => ((head_Open.f k t158).bind fun bt170 => ((head_Open.f k (⟨#[]⟩ : ByteArray)).bind fun bt178 => ((withyref01_Repeat.f k 0 128).bind fun t186 => ((head_Open.f k t186).bind fun bt187 => (if (t158.size : Int) = 128 then (if t159 = 0 then (if 0 < (t158.size : Int) then (if (bt t158 0) = 2 then (if 8 < (t158.size : Int) then (if (bt t158 8) = 3 then (if 16 ≤ (t158.size : Int) then ((withyref01_Repeat.f k 0 112).bind fun t195 => (if (t158.extract 16 t158.size).toList = t195.toList then (if t161 = 4 then (if bt162.2 = 3 then (if bt165.2 = 8 then (if bt168.2 = 3 then (if (bt170.1 == 2 && (bt170.2.1 == 0 && (bt170.2.2.1 == 0 && (bt170.2.2.2.1 == 0 && (bt170.2.2.2.2.1 == 3))))) = true then ((withyref01_Repeat.f k 0 112).bind fun t196 => (if bt170.2.2.2.2.2.1.toList = t196.toList then (if bt170.2.2.2.2.2.2 = 0 then (if bt178.2.2.2.2.2.2 = 3 then (if bt187.2.2.2.2.2.2 = 3 then ((head_Right.f k 2 0 0 0 3).bind fun t197 => (if t197 = true then ((head_Right.f k 5 0 0 0 0).bind fun t198 => (if t198 = true then (none) else (some true))) else (none))) else (none)) else (none)) else (none)) else (none))) else (none)) else (none)) else (none)) else (none)) else (none)) else (none))) else (none)) else (none)) else (none)) else (none)) else (none)) else (none)) else (none))))))))))) = some r := H
 have A2 := Aside0.mk A20
 clear A20
 replace H := bM H
 obtain ⟨⟨t162, t163⟩, A30, H⟩ := H
 replace H : ((withyref01_Repeat.f k 1 113).bind fun t164 => ((head_Seal.f k 2 0 0 0 3 t164 128).bind fun bt165 => ((withyref01_Repeat.f k 1 113).bind fun t167 => ((head_Seal.f k 0 0 0 0 0 t167 128).bind fun bt168 => ((head_Open.f k t158).bind fun bt170 => ((head_Open.f k (⟨#[]⟩ : ByteArray)).bind fun bt178 => ((withyref01_Repeat.f k 0 128).bind fun t186 => ((head_Open.f k t186).bind fun bt187 => (if (t158.size : Int) = 128 then (if t159 = 0 then (if 0 < (t158.size : Int) then (if (bt t158 0) = 2 then (if 8 < (t158.size : Int) then (if (bt t158 8) = 3 then (if 16 ≤ (t158.size : Int) then ((withyref01_Repeat.f k 0 112).bind fun t195 => (if (t158.extract 16 t158.size).toList = t195.toList then (if t161 = 4 then (if t163 = 3 then (if bt165.2 = 8 then (if bt168.2 = 3 then (if (bt170.1 == 2 && (bt170.2.1 == 0 && (bt170.2.2.1 == 0 && (bt170.2.2.2.1 == 0 && (bt170.2.2.2.2.1 == 3))))) = true then ((withyref01_Repeat.f k 0 112).bind fun t196 => (if bt170.2.2.2.2.2.1.toList = t196.toList then (if bt170.2.2.2.2.2.2 = 0 then (if bt178.2.2.2.2.2.2 = 3 then (if bt187.2.2.2.2.2.2 = 3 then ((head_Right.f k 2 0 0 0 3).bind fun t197 => (if t197 = true then ((head_Right.f k 5 0 0 0 0).bind fun t198 => (if t198 = true then (none) else (some true))) else (none))) else (none)) else (none)) else (none)) else (none))) else (none)) else (none)) else (none)) else (none)) else (none)) else (none))) else (none)) else (none)) else (none)) else (none)) else (none)) else (none)) else (none)))))))))) = some r := H
 have A3 := Aside0.mk A30
 clear A30
 replace H := bM H
 obtain ⟨t164, A40, H⟩ := H
 replace H : ((head_Seal.f k 2 0 0 0 3 t164 128).bind fun bt165 => ((withyref01_Repeat.f k 1 113).bind fun t167 => ((head_Seal.f k 0 0 0 0 0 t167 128).bind fun bt168 => ((head_Open.f k t158).bind fun bt170 => ((head_Open.f k (⟨#[]⟩ : ByteArray)).bind fun bt178 => ((withyref01_Repeat.f k 0 128).bind fun t186 => ((head_Open.f k t186).bind fun bt187 => (if (t158.size : Int) = 128 then (if t159 = 0 then (if 0 < (t158.size : Int) then (if (bt t158 0) = 2 then (if 8 < (t158.size : Int) then (if (bt t158 8) = 3 then (if 16 ≤ (t158.size : Int) then ((withyref01_Repeat.f k 0 112).bind fun t195 => (if (t158.extract 16 t158.size).toList = t195.toList then (if t161 = 4 then (if t163 = 3 then (if bt165.2 = 8 then (if bt168.2 = 3 then (if (bt170.1 == 2 && (bt170.2.1 == 0 && (bt170.2.2.1 == 0 && (bt170.2.2.2.1 == 0 && (bt170.2.2.2.2.1 == 3))))) = true then ((withyref01_Repeat.f k 0 112).bind fun t196 => (if bt170.2.2.2.2.2.1.toList = t196.toList then (if bt170.2.2.2.2.2.2 = 0 then (if bt178.2.2.2.2.2.2 = 3 then (if bt187.2.2.2.2.2.2 = 3 then ((head_Right.f k 2 0 0 0 3).bind fun t197 => (if t197 = true then ((head_Right.f k 5 0 0 0 0).bind fun t198 => (if t198 = true then (none) else (some true))) else (none))) else (none)) else (none)) else (none)) else (none))) else (none)) else (none)) else (none)) else (none)) else (none)) else (none))) else (none)) else (none)) else (none)) else (none)) else (none)) else (none)) else (none))))))))) = some r := H
 have A4 := Aside0.mk A40
 clear A40
 replace H := bM H
 obtain ⟨⟨t165, t166⟩, A50, H⟩ := H
 replace H : ((withyref01_Repeat.f k 1 113).bind fun t167 => ((head_Seal.f k 0 0 0 0 0 t167 128).bind fun bt168 => ((head_Open.f k t158).bind fun bt170 => ((head_Open.f k (⟨#[]⟩ : ByteArray)).bind fun bt178 => ((withyref01_Repeat.f k 0 128).bind fun t186 => ((head_Open.f k t186).bind fun bt187 => (if (t158.size : Int) = 128 then (if t159 = 0 then (if 0 < (t158.size : Int) then (if (bt t158 0) = 2 then (if 8 < (t158.size : Int) then (if (bt t158 8) = 3 then (if 16 ≤ (t158.size : Int) then ((withyref01_Repeat.f k 0 112).bind fun t195 => (if (t158.extract 16 t158.size).toList = t195.toList then (if t161 = 4 then (if t163 = 3 then (if t166 = 8 then (if bt168.2 = 3 then (if (bt170.1 == 2 && (bt170.2.1 == 0 && (bt170.2.2.1 == 0 && (bt170.2.2.2.1 == 0 && (bt170.2.2.2.2.1 == 3))))) = true then ((withyref01_Repeat.f k 0 112).bind fun t196 => (if bt170.2.2.2.2.2.1.toList = t196.toList then (if bt170.2.2.2.2.2.2 = 0 then (if bt178.2.2.2.2.2.2 = 3 then (if bt187.2.2.2.2.2.2 = 3 then ((head_Right.f k 2 0 0 0 3).bind fun t197 => (if t197 = true then ((head_Right.f k 5 0 0 0 0).bind fun t198 => (if t198 = true then (none) else (some true))) else (none))) else (none)) else (none)) else (none)) else (none))) else (none)) else (none)) else (none)) else (none)) else (none)) else (none))) else (none)) else (none)) else (none)) else (none)) else (none)) else (none)) else (none)))))))) = some r := H
 have A5 := Aside0.mk A50
 clear A50
 replace H := bM H
 obtain ⟨t167, A60, H⟩ := H
 replace H : ((head_Seal.f k 0 0 0 0 0 t167 128).bind fun bt168 => ((head_Open.f k t158).bind fun bt170 => ((head_Open.f k (⟨#[]⟩ : ByteArray)).bind fun bt178 => ((withyref01_Repeat.f k 0 128).bind fun t186 => ((head_Open.f k t186).bind fun bt187 => (if (t158.size : Int) = 128 then (if t159 = 0 then (if 0 < (t158.size : Int) then (if (bt t158 0) = 2 then (if 8 < (t158.size : Int) then (if (bt t158 8) = 3 then (if 16 ≤ (t158.size : Int) then ((withyref01_Repeat.f k 0 112).bind fun t195 => (if (t158.extract 16 t158.size).toList = t195.toList then (if t161 = 4 then (if t163 = 3 then (if t166 = 8 then (if bt168.2 = 3 then (if (bt170.1 == 2 && (bt170.2.1 == 0 && (bt170.2.2.1 == 0 && (bt170.2.2.2.1 == 0 && (bt170.2.2.2.2.1 == 3))))) = true then ((withyref01_Repeat.f k 0 112).bind fun t196 => (if bt170.2.2.2.2.2.1.toList = t196.toList then (if bt170.2.2.2.2.2.2 = 0 then (if bt178.2.2.2.2.2.2 = 3 then (if bt187.2.2.2.2.2.2 = 3 then ((head_Right.f k 2 0 0 0 3).bind fun t197 => (if t197 = true then ((head_Right.f k 5 0 0 0 0).bind fun t198 => (if t198 = true then (none) else (some true))) else (none))) else (none)) else (none)) else (none)) else (none))) else (none)) else (none)) else (none)) else (none)) else (none)) else (none))) else (none)) else (none)) else (none)) else (none)) else (none)) else (none)) else (none))))))) = some r := H
 have A6 := Aside0.mk A60
 clear A60
 replace H := bM H
 obtain ⟨⟨t168, t169⟩, A70, H⟩ := H
 replace H : ((head_Open.f k t158).bind fun bt170 => ((head_Open.f k (⟨#[]⟩ : ByteArray)).bind fun bt178 => ((withyref01_Repeat.f k 0 128).bind fun t186 => ((head_Open.f k t186).bind fun bt187 => (if (t158.size : Int) = 128 then (if t159 = 0 then (if 0 < (t158.size : Int) then (if (bt t158 0) = 2 then (if 8 < (t158.size : Int) then (if (bt t158 8) = 3 then (if 16 ≤ (t158.size : Int) then ((withyref01_Repeat.f k 0 112).bind fun t195 => (if (t158.extract 16 t158.size).toList = t195.toList then (if t161 = 4 then (if t163 = 3 then (if t166 = 8 then (if t169 = 3 then (if (bt170.1 == 2 && (bt170.2.1 == 0 && (bt170.2.2.1 == 0 && (bt170.2.2.2.1 == 0 && (bt170.2.2.2.2.1 == 3))))) = true then ((withyref01_Repeat.f k 0 112).bind fun t196 => (if bt170.2.2.2.2.2.1.toList = t196.toList then (if bt170.2.2.2.2.2.2 = 0 then (if bt178.2.2.2.2.2.2 = 3 then (if bt187.2.2.2.2.2.2 = 3 then ((head_Right.f k 2 0 0 0 3).bind fun t197 => (if t197 = true then ((head_Right.f k 5 0 0 0 0).bind fun t198 => (if t198 = true then (none) else (some true))) else (none))) else (none)) else (none)) else (none)) else (none))) else (none)) else (none)) else (none)) else (none)) else (none)) else (none))) else (none)) else (none)) else (none)) else (none)) else (none)) else (none)) else (none)))))) = some r := H
 have A7 := Aside0.mk A70
 clear A70
 replace H := bM H
 obtain ⟨⟨t170, t171, t172, t173, t174, t175, t176⟩, A80, H⟩ := H
 replace H : ((head_Open.f k (⟨#[]⟩ : ByteArray)).bind fun bt178 => ((withyref01_Repeat.f k 0 128).bind fun t186 => ((head_Open.f k t186).bind fun bt187 => (if (t158.size : Int) = 128 then (if t159 = 0 then (if 0 < (t158.size : Int) then (if (bt t158 0) = 2 then (if 8 < (t158.size : Int) then (if (bt t158 8) = 3 then (if 16 ≤ (t158.size : Int) then ((withyref01_Repeat.f k 0 112).bind fun t195 => (if (t158.extract 16 t158.size).toList = t195.toList then (if t161 = 4 then (if t163 = 3 then (if t166 = 8 then (if t169 = 3 then (if (t170 == 2 && (t171 == 0 && (t172 == 0 && (t173 == 0 && (t174 == 3))))) = true then ((withyref01_Repeat.f k 0 112).bind fun t196 => (if t175.toList = t196.toList then (if t176 = 0 then (if bt178.2.2.2.2.2.2 = 3 then (if bt187.2.2.2.2.2.2 = 3 then ((head_Right.f k 2 0 0 0 3).bind fun t197 => (if t197 = true then ((head_Right.f k 5 0 0 0 0).bind fun t198 => (if t198 = true then (none) else (some true))) else (none))) else (none)) else (none)) else (none)) else (none))) else (none)) else (none)) else (none)) else (none)) else (none)) else (none))) else (none)) else (none)) else (none)) else (none)) else (none)) else (none)) else (none))))) = some r := H
 have A8 := Aside0.mk A80
 clear A80
 replace H := bM H
 obtain ⟨⟨t178, t179, t180, t181, t182, t183, t184⟩, A90, H⟩ := H
 replace H : ((withyref01_Repeat.f k 0 128).bind fun t186 => ((head_Open.f k t186).bind fun bt187 => (if (t158.size : Int) = 128 then (if t159 = 0 then (if 0 < (t158.size : Int) then (if (bt t158 0) = 2 then (if 8 < (t158.size : Int) then (if (bt t158 8) = 3 then (if 16 ≤ (t158.size : Int) then ((withyref01_Repeat.f k 0 112).bind fun t195 => (if (t158.extract 16 t158.size).toList = t195.toList then (if t161 = 4 then (if t163 = 3 then (if t166 = 8 then (if t169 = 3 then (if (t170 == 2 && (t171 == 0 && (t172 == 0 && (t173 == 0 && (t174 == 3))))) = true then ((withyref01_Repeat.f k 0 112).bind fun t196 => (if t175.toList = t196.toList then (if t176 = 0 then (if t184 = 3 then (if bt187.2.2.2.2.2.2 = 3 then ((head_Right.f k 2 0 0 0 3).bind fun t197 => (if t197 = true then ((head_Right.f k 5 0 0 0 0).bind fun t198 => (if t198 = true then (none) else (some true))) else (none))) else (none)) else (none)) else (none)) else (none))) else (none)) else (none)) else (none)) else (none)) else (none)) else (none))) else (none)) else (none)) else (none)) else (none)) else (none)) else (none)) else (none)))) = some r := H
 have A9 := Aside0.mk A90
 clear A90
 replace H := bM H
 obtain ⟨t186, A100, H⟩ := H
 replace H : ((head_Open.f k t186).bind fun bt187 => (if (t158.size : Int) = 128 then (if t159 = 0 then (if 0 < (t158.size : Int) then (if (bt t158 0) = 2 then (if 8 < (t158.size : Int) then (if (bt t158 8) = 3 then (if 16 ≤ (t158.size : Int) then ((withyref01_Repeat.f k 0 112).bind fun t195 => (if (t158.extract 16 t158.size).toList = t195.toList then (if t161 = 4 then (if t163 = 3 then (if t166 = 8 then (if t169 = 3 then (if (t170 == 2 && (t171 == 0 && (t172 == 0 && (t173 == 0 && (t174 == 3))))) = true then ((withyref01_Repeat.f k 0 112).bind fun t196 => (if t175.toList = t196.toList then (if t176 = 0 then (if t184 = 3 then (if bt187.2.2.2.2.2.2 = 3 then ((head_Right.f k 2 0 0 0 3).bind fun t197 => (if t197 = true then ((head_Right.f k 5 0 0 0 0).bind fun t198 => (if t198 = true then (none) else (some true))) else (none))) else (none)) else (none)) else (none)) else (none))) else (none)) else (none)) else (none)) else (none)) else (none)) else (none))) else (none)) else (none)) else (none)) else (none)) else (none)) else (none)) else (none))) = some r := H
 have A10 := Aside0.mk A100
 clear A100
 replace H := bM H
 obtain ⟨⟨t187, t188, t189, t190, t191, t192, t193⟩, A110, H⟩ := H
 replace H : (if (t158.size : Int) = 128 then (if t159 = 0 then (if 0 < (t158.size : Int) then (if (bt t158 0) = 2 then (if 8 < (t158.size : Int) then (if (bt t158 8) = 3 then (if 16 ≤ (t158.size : Int) then ((withyref01_Repeat.f k 0 112).bind fun t195 => (if (t158.extract 16 t158.size).toList = t195.toList then (if t161 = 4 then (if t163 = 3 then (if t166 = 8 then (if t169 = 3 then (if (t170 == 2 && (t171 == 0 && (t172 == 0 && (t173 == 0 && (t174 == 3))))) = true then ((withyref01_Repeat.f k 0 112).bind fun t196 => (if t175.toList = t196.toList then (if t176 = 0 then (if t184 = 3 then (if t193 = 3 then ((head_Right.f k 2 0 0 0 3).bind fun t197 => (if t197 = true then ((head_Right.f k 5 0 0 0 0).bind fun t198 => (if t198 = true then (none) else (some true))) else (none))) else (none)) else (none)) else (none)) else (none))) else (none)) else (none)) else (none)) else (none)) else (none)) else (none))) else (none)) else (none)) else (none)) else (none)) else (none)) else (none)) else (none)) = some r := H
 have A11 := Aside0.mk A110
 clear A110
 by_cases c12 : (t158.size : Int) = 128
 rotate_left
 ·rw [if_neg c12] at H
  exact absurd H (by simp)
 
 rw [if_pos c12] at H
 have c12b0 : ((t158.size : Int) == 128) = true := beq_iff_eq.mpr c12
 have c12b1 : ((t158.size : Int) != 128) = false := bne_eq_false_iff_eq.mpr c12
 clear c12
 by_cases c13 : t159 = 0
 rotate_left
 ·rw [if_neg c13] at H
  exact absurd H (by simp)
 rw [if_pos c13] at H
 have c13b0 : (t159 == 0) = true := beq_iff_eq.mpr c13
 have c13b1 : (t159 != 0) = false := bne_eq_false_iff_eq.mpr c13
 clear c13
 by_cases c14 : 0 < (t158.size : Int)
 rotate_left
 ·rw [if_neg c14] at H
  exact absurd H (by simp)
 rw [if_pos c14] at H
 have c14b0 : decide (0 < (t158.size : Int)) = true := decide_eq_true c14
 have c14b1 : decide (0 < t158.size) = true := decide_eq_true (by omega)
 clear c14
 by_cases c16 : (bt t158 0) = 2
 rotate_left
 ·rw [if_neg c16] at H
  exact absurd H (by simp)
 rw [if_pos c16] at H
 have c16b0 : ((bt t158 0) == 2) = true := beq_iff_eq.mpr c16
 have c16b1 : ((bt t158 0) != 2) = false := bne_eq_false_iff_eq.mpr c16
 clear c16
 by_cases c17 : 8 < (t158.size : Int)
 rotate_left
 ·rw [if_neg c17] at H
  exact absurd H (by simp)
 rw [if_pos c17] at H
 have c17b0 : decide (8 < (t158.size : Int)) = true := decide_eq_true c17
 have c17b1 : decide (8 < t158.size) = true := decide_eq_true (by omega)
 clear c17
 by_cases c19 : (bt t158 8) = 3
 rotate_left
 ·rw [if_neg c19] at H
  exact absurd H (by simp)
 rw [if_pos c19] at H
 have c19b0 : ((bt t158 8) == 3) = true := beq_iff_eq.mpr c19
 have c19b1 : ((bt t158 8) != 3) = false := bne_eq_false_iff_eq.mpr c19
 clear c19
 by_cases c20 : 16 ≤ (t158.size : Int)
 rotate_left
 ·rw [if_neg c20] at H
  exact absurd H (by simp)
 rw [if_pos c20] at H
 have c20b0 := eq_true c20
 have c20b1 : decide (16 ≤ (t158.size : Int)) = true := decide_eq_true c20
 clear c20
 obtain ⟨js21, hjs21⟩ : ∃ j_ : ByteArray, (t158.extract 16 t158.size) = j_ := ⟨_, rfl⟩
 replace H : ((withyref01_Repeat.f k 0 112).bind fun t195 => (if (js21).toList = t195.toList then (if t161 = 4 then (if t163 = 3 then (if t166 = 8 then (if t169 = 3 then (if (t170 == 2 && (t171 == 0 && (t172 == 0 && (t173 == 0 && (t174 == 3))))) = true then ((withyref01_Repeat.f k 0 112).bind fun t196 => (if t175.toList = t196.toList then (if t176 = 0 then (if t184 = 3 then (if t193 = 3 then ((head_Right.f k 2 0 0 0 3).bind fun t197 => (if t197 = true then ((head_Right.f k 5 0 0 0 0).bind fun t198 => (if t198 = true then (none) else (some true))) else (none))) else (none)) else (none)) else (none)) else (none))) else (none)) else (none)) else (none)) else (none)) else (none)) else (none))) = some r := by first | (rw [hjs21] at H; exact H) | (simp only [hjs21] at H ⊢; exact H)
 (try rw [hjs21] at A1)
 (try rw [hjs21] at A2)
 (try rw [hjs21] at A3)
 (try rw [hjs21] at A4)
 (try rw [hjs21] at A5)
 (try rw [hjs21] at A6)
 (try rw [hjs21] at A7)
 (try rw [hjs21] at A8)
 (try rw [hjs21] at A9)
 (try rw [hjs21] at A10)
 (try rw [hjs21] at A11)
 replace H := bM H
 obtain ⟨t195, A220, H⟩ := H
 replace H : (if (js21).toList = t195.toList then (if t161 = 4 then (if t163 = 3 then (if t166 = 8 then (if t169 = 3 then (if (t170 == 2 && (t171 == 0 && (t172 == 0 && (t173 == 0 && (t174 == 3))))) = true then ((withyref01_Repeat.f k 0 112).bind fun t196 => (if t175.toList = t196.toList then (if t176 = 0 then (if t184 = 3 then (if t193 = 3 then ((head_Right.f k 2 0 0 0 3).bind fun t197 => (if t197 = true then ((head_Right.f k 5 0 0 0 0).bind fun t198 => (if t198 = true then (none) else (some true))) else (none))) else (none)) else (none)) else (none)) else (none))) else (none)) else (none)) else (none)) else (none)) else (none)) else (none)) = some r := H
 have A22 := Aside0.mk A220
 clear A220
 by_cases c23 : (js21).toList = t195.toList
 rotate_left
 ·rw [if_neg c23] at H
  exact absurd H (by simp)
 rw [if_pos c23] at H
 have c23b0 : ((js21).toList == t195.toList) = true := beq_iff_eq.mpr c23
 have c23b1 : ((js21).toList != t195.toList) = false := bne_eq_false_iff_eq.mpr c23
 clear c23
 by_cases c24 : t161 = 4
 rotate_left
 ·rw [if_neg c24] at H
  exact absurd H (by simp)
 rw [if_pos c24] at H
 have c24b0 : (t161 == 4) = true := beq_iff_eq.mpr c24
 have c24b1 : (t161 != 4) = false := bne_eq_false_iff_eq.mpr c24
 clear c24
 by_cases c25 : t163 = 3
 rotate_left
 ·rw [if_neg c25] at H
  exact absurd H (by simp)
 rw [if_pos c25] at H
 have c25b0 : (t163 == 3) = true := beq_iff_eq.mpr c25
 have c25b1 : (t163 != 3) = false := bne_eq_false_iff_eq.mpr c25
 clear c25
 by_cases c26 : t166 = 8
 rotate_left
 ·rw [if_neg c26] at H
  exact absurd H (by simp)
 rw [if_pos c26] at H
 have c26b0 : (t166 == 8) = true := beq_iff_eq.mpr c26
 have c26b1 : (t166 != 8) = false := bne_eq_false_iff_eq.mpr c26
 clear c26
 by_cases c27 : t169 = 3
 rotate_left
 ·rw [if_neg c27] at H
  exact absurd H (by simp)
 rw [if_pos c27] at H
 have c27b0 : (t169 == 3) = true := beq_iff_eq.mpr c27
 have c27b1 : (t169 != 3) = false := bne_eq_false_iff_eq.mpr c27
 clear c27
 by_cases c28 : (t170 == 2 && (t171 == 0 && (t172 == 0 && (t173 == 0 && (t174 == 3))))) = true
 rotate_left
 ·rw [if_neg c28] at H
  exact absurd H (by simp)
 rw [if_pos c28] at H
 have c28b0 : (t170 == 2 && (t171 == 0 && (t172 == 0 && (t173 == 0 && (t174 == 3))))) = true := c28
 (try (have c28b8 : (t170 = 2 ∧ t171 = 0 ∧ t172 = 0 ∧ t173 = 0 ∧ t174 = 3) = True := eq_true (by simpa using c28)))
 (try (have c28b1 : t170 = 2 && (t171 == 0 && (t172 == 0 && (t173 == 0 && (t174 == 3)))) := by simpa using c28))
 (try (have c28b2 : decide (t170 = 2 && (t171 == 0 && (t172 == 0 && (t173 == 0 && (t174 == 3))))) = true := by simpa using c28))
 (try (have c28b3 : (t170 == 2 && (t171 == 0 && (t172 == 0 && (t173 == 0 && (t174 == 3))))) = true := by simpa using c28))
 clear c28
 replace H := bM H
 obtain ⟨t196, A290, H⟩ := H
 replace H : (if t175.toList = t196.toList then (if t176 = 0 then (if t184 = 3 then (if t193 = 3 then ((head_Right.f k 2 0 0 0 3).bind fun t197 => (if t197 = true then ((head_Right.f k 5 0 0 0 0).bind fun t198 => (if t198 = true then (none) else (some true))) else (none))) else (none)) else (none)) else (none)) else (none)) = some r := H
 have A29 := Aside0.mk A290
 clear A290
 by_cases c30 : t175.toList = t196.toList
 rotate_left
 ·rw [if_neg c30] at H
  exact absurd H (by simp)
 rw [if_pos c30] at H
 have c30b0 : (t175.toList == t196.toList) = true := beq_iff_eq.mpr c30
 have c30b1 : (t175.toList != t196.toList) = false := bne_eq_false_iff_eq.mpr c30
 clear c30
 by_cases c31 : t176 = 0
 rotate_left
 ·rw [if_neg c31] at H
  exact absurd H (by simp)
 rw [if_pos c31] at H
 have c31b0 : (t176 == 0) = true := beq_iff_eq.mpr c31
 have c31b1 : (t176 != 0) = false := bne_eq_false_iff_eq.mpr c31
 clear c31
 by_cases c32 : t184 = 3
 rotate_left
 ·rw [if_neg c32] at H
  exact absurd H (by simp)
 rw [if_pos c32] at H
 have c32b0 : (t184 == 3) = true := beq_iff_eq.mpr c32
 have c32b1 : (t184 != 3) = false := bne_eq_false_iff_eq.mpr c32
 clear c32
 by_cases c33 : t193 = 3
 rotate_left
 ·rw [if_neg c33] at H
  exact absurd H (by simp)
 rw [if_pos c33] at H
 have c33b0 : (t193 == 3) = true := beq_iff_eq.mpr c33
 have c33b1 : (t193 != 3) = false := bne_eq_false_iff_eq.mpr c33
 clear c33
 replace H := bM H
 obtain ⟨t197, A340, H⟩ := H
 replace H : (if t197 = true then ((head_Right.f k 5 0 0 0 0).bind fun t198 => (if t198 = true then (none) else (some true))) else (none)) = some r := H
 have A34 := Aside0.mk A340
 clear A340
 by_cases c35 : t197 = true
 rotate_left
 ·replace c35 := Bool.eq_false_iff.mpr c35
  subst c35
  have H1 : (none) = some r := by rw [if_neg (show ¬ (false = true) by decide)] at H; exact H
  clear H
  have H := H1
  clear H1
  exact absurd H (by simp)
 subst c35
 have H1 : ((head_Right.f k 5 0 0 0 0).bind fun t198 => (if t198 = true then (none) else (some true))) = some r := by rw [if_pos rfl] at H; exact H
 clear H
 have H := H1
 clear H1
 replace H := bM H
 obtain ⟨t198, A360, H⟩ := H
 replace H : (if t198 = true then (none) else (some true)) = some r := H
 have A36 := Aside0.mk A360
 clear A360
 by_cases c37 : t198 = true
 ·subst c37
  have H1 : (none) = some r := by rw [if_pos rfl] at H; exact H
  clear H
  have H := H1
  clear H1
  exact absurd H (by simp)
 replace c37 := Bool.eq_false_iff.mpr c37
 subst c37
 have H1 : (some true) = some r := by rw [if_neg (show ¬ (false = true) by decide)] at H; exact H
 clear H
 have H := H1
 clear H1
 obtain rfl := Option.some.inj H
 go_enter Try.func16, Try.ntmps16
 (try simp only [List.append_eq, List.cons_append, List.nil_append])
 try go_wp2_with (first | ((with_reducible refine gate_dst (N := 1) rfl ?_); refine box_event (by rfl) (N := 1) (by rfl) (cs := #[.int .i64 0, .int .i64 0, .int .i64 0, .int .i64 0, .int .i64 0]) (t := 23) gS ?_; intro gb157 hg w38 hbox hb; have BK157 := as_ (hbox); have GW157 := gw hg bA; have GE157 := gw hg bA; replace HB := as_ (below_step bA hb); clear hb hbox hg; obtain ⟨hcz39_0, hcz39_1, hcz39_2, hcz39_3, hcz39_4⟩ := zc5 BK157; obtain ⟨hfz39_0, hfz39_1, hfz39_2, hfz39_3, hfz39_4⟩ := zf5 BK157) | ((with_reducible refine gate_callee (f := 9) rfl ?_); refine goesL_ (some 24) rfl rfl Try.func9 (by kernel_rfl) rfl #[.agg #[.int .i64 2, .int .i64 0, .int .i64 0, .int .i64 0, .int .i64 3], .string (⟨#[]⟩ : ByteArray), .int .i64 128] rfl aO ?_; (with_reducible refine (head_Seal.calls k 2 0 0 0 3 (⟨#[]⟩ : ByteArray) 128 t158 t159 _ A1.out).mono ?_); rintro e w40 ⟨rfl, hb⟩; refine ⟨_, rfl, ?_⟩; replace BK157 := as_ (blk_below (g := gb157) (o := .cells #[.int .i64 2, .int .i64 0, .int .i64 0, .int .i64 0, .int .i64 3] 23 (0, 0)) (by refine bx ?_; refine blk_put (cs := #[.int .i64 2, .int .i64 0, .int .i64 0, .int .i64 0, .int .i64 0]) ?_ 4 _ rfl; refine bx ?_; refine blk_put (cs := #[.int .i64 2, .int .i64 0, .int .i64 0, .int .i64 0, .int .i64 0]) ?_ 3 _ rfl; refine bx ?_; refine blk_put (cs := #[.int .i64 2, .int .i64 0, .int .i64 0, .int .i64 0, .int .i64 0]) ?_ 2 _ rfl; refine bx ?_; refine blk_put (cs := #[.int .i64 2, .int .i64 0, .int .i64 0, .int .i64 0, .int .i64 0]) ?_ 1 _ rfl; refine bx ?_; refine blk_put (cs := #[.int .i64 0, .int .i64 0, .int .i64 0, .int .i64 0, .int .i64 0]) ?_ 0 _ rfl; refine bx ?_; exact BK157.out) hb); replace HB := as_ (below_step bA hb); (try clear hb); (try clear hb2); (try clear hk); (try clear hi); obtain ⟨hcz41_0, hcz41_1, hcz41_2, hcz41_3, hcz41_4⟩ := zc5 BK157; obtain ⟨hfz41_0, hfz41_1, hfz41_2, hfz41_3, hfz41_4⟩ := zf5 BK157) | ((with_reducible refine gate_callee (f := 9) rfl ?_); refine goesL_ (some 29) rfl rfl Try.func9 (by kernel_rfl) rfl #[.agg #[.int .i64 2, .int .i64 0, .int .i64 0, .int .i64 0, .int .i64 3], .string (⟨#[]⟩ : ByteArray), .int .i64 100] rfl aO ?_; (with_reducible refine (head_Seal.calls k 2 0 0 0 3 (⟨#[]⟩ : ByteArray) 100 t160 t161 _ A2.out).mono ?_); rintro e w42 ⟨rfl, hb⟩; refine ⟨_, rfl, ?_⟩; replace BK157 := bb BK157 hb; replace HB := as_ (below_step bA hb); (try clear hb); (try clear hb2); (try clear hk); (try clear hi)) | ((with_reducible refine gate_callee (f := 9) rfl ?_); refine goesL_ (some 34) rfl rfl Try.func9 (by kernel_rfl) rfl #[.agg #[.int .i64 0, .int .i64 0, .int .i64 0, .int .i64 0, .int .i64 0], .string (⟨#[]⟩ : ByteArray), .int .i64 128] rfl aO ?_; (with_reducible refine (head_Seal.calls k 0 0 0 0 0 (⟨#[]⟩ : ByteArray) 128 t162 t163 _ A3.out).mono ?_); rintro e w43 ⟨rfl, hb⟩; refine ⟨_, rfl, ?_⟩; replace BK157 := bb BK157 hb; replace HB := as_ (below_step bA hb); (try clear hb); (try clear hb2); (try clear hk); (try clear hi)))
 replace BK157 := as_ (blk_drew BK157.out)
 replace HB := as_ (below_drew1 HB.out)
 refine start_ (n := 8) (S := fun w' => w'.cell? ⟨gb157, 0, none⟩ = some (.int .i64 2) ∧ w'.cell? ⟨gb157, 1, none⟩ = some (.int .i64 0) ∧ w'.cell? ⟨gb157, 2, none⟩ = some (.int .i64 0) ∧ w'.cell? ⟨gb157, 3, none⟩ = some (.int .i64 0) ∧ w'.cell? ⟨gb157, 4, none⟩ = some (.int .i64 3)) (ds := []) #[ff, ff, ff, ff, ff, ff, ff, ff] (by kernel_rfl) rfl rfl ⟨(blk_cell BK157.out 0).trans rfl, (blk_cell BK157.out 1).trans rfl, (blk_cell BK157.out 2).trans rfl, (blk_cell BK157.out 3).trans rfl, (blk_cell BK157.out 4).trans rfl⟩ (fun hHeld => ?_); refine with_tabW withylaw07_fixed.tab5 withylaw07_fixed.bits5 (fun HT_ HW_ => ?_)
 generalize w43.drew = w44 at BK157 HB hHeld ⊢
 refine take_ (i := 0) (N := some 38) (v := ?_) (a' := ?_) #[tt, ff, ff, ff, ff, ff, ff, ff] rfl rfl (take_ofW HT_.out HW_.out (by kernel_rfl)) (fun _ _ _ h => h) (Or.inl ⟨by rfl, ?_⟩) hHeld ?_ ?_
 rotate_left
 ·rintro w' ⟨s0, s1, s2, s3, s4⟩
  go_simp
  with_reducible rfl
 rotate_left
 ·exact aP
 refine one_ (i := 1) (N := some 39) #[tt, tt, ff, ff, ff, ff, ff, ff] rfl rfl (one_of HT_.out (by kernel_rfl)) (by decide) (fun K hK => ?_)
 refine goes_ Try.func17 (by kernel_rfl) rfl #[.int .u8 1, .int .i64 113] (by rfl) rfl rfl aO ?_
 with_reducible refine (withyref01_Repeat.calls k 1 113 t164 _ A4.out).mono ?_
 rintro e w45 ⟨rfl, hb⟩
 refine ⟨_, rfl, ?_⟩
 replace BK157 := bb BK157 hb
 replace HB := as_ (below_step bA hb)
 (try clear hb)
 (try clear hb2)
 (try clear hk)
 (try clear hi)
 refine hK.out _ _ ⟨(blk_cell BK157.out 0).trans rfl, (blk_cell BK157.out 1).trans rfl, (blk_cell BK157.out 2).trans rfl, (blk_cell BK157.out 3).trans rfl, (blk_cell BK157.out 4).trans rfl⟩ (fun hHeld => ?_)
 clear hK K
 refine norm_ (a' := ?_) ?_ ?_
 rotate_left
 ·show Act.put _ (some 39) _ = _
  simp only [Act.put, List.setIfInBounds_toArray, List.set_cons_zero, List.set_cons_succ, i64_w, i32_w]
  rfl
 refine one_ (i := 2) (N := some 40) #[tt, tt, tt, ff, ff, ff, ff, ff] rfl rfl (one_of HT_.out (by kernel_rfl)) (by decide) (fun K hK => ?_)
 refine goes_ Try.func9 (by kernel_rfl) rfl #[.agg #[.int .i64 2, .int .i64 0, .int .i64 0, .int .i64 0, .int .i64 3], .string t164, .int .i64 128] (by rfl) rfl rfl aO ?_
 with_reducible refine (head_Seal.calls k 2 0 0 0 3 t164 128 t165 t166 _ A5.out).mono ?_
 rintro e w46 ⟨rfl, hb⟩
 refine ⟨_, rfl, ?_⟩
 replace BK157 := bb BK157 hb
 replace HB := as_ (below_step bA hb)
 (try clear hb)
 (try clear hb2)
 (try clear hk)
 (try clear hi)
 refine hK.out _ _ ⟨(blk_cell BK157.out 0).trans rfl, (blk_cell BK157.out 1).trans rfl, (blk_cell BK157.out 2).trans rfl, (blk_cell BK157.out 3).trans rfl, (blk_cell BK157.out 4).trans rfl⟩ (fun hHeld => ?_)
 clear hK K
 refine norm_ (a' := ?_) ?_ ?_
 rotate_left
 ·show Act.put _ (some 40) _ = _
  simp only [Act.put, List.setIfInBounds_toArray, List.set_cons_zero, List.set_cons_succ, i64_w, i32_w]
  rfl
 refine pure_ (i := 3) (N := some 37) (v := ?_) (a' := ?_) #[tt, tt, tt, tt, ff, ff, ff, ff] rfl rfl (any_of HT_.out (by kernel_rfl)) (fun _ _ _ h => h) (Or.inl ⟨by rfl, ?_⟩) ?_ ?_
 rotate_left
 ·intro w'
  go_simp
  with_reducible rfl
 rotate_left
 ·exact aP
 refine pure_ (i := 4) (N := some 41) (v := ?_) (a' := ?_) #[tt, tt, tt, tt, tt, ff, ff, ff] rfl rfl (any_of HT_.out (by kernel_rfl)) (fun _ _ _ h => h) (Or.inl ⟨by rfl, ?_⟩) ?_ ?_
 rotate_left
 ·intro w'
  go_simp
  with_reducible rfl
 rotate_left
 ·exact aP
 refine pure_ (i := 5) (N := some 42) (v := ?_) (a' := ?_) #[tt, tt, tt, tt, tt, tt, ff, ff] rfl rfl (any_of HT_.out (by kernel_rfl)) (fun _ _ _ h => h) (Or.inl ⟨by rfl, ?_⟩) ?_ ?_
 rotate_left
 ·intro w'
  go_simp
  with_reducible rfl
 rotate_left
 ·exact aP
 refine pure_ (i := 6) (N := some 8) (v := ?_) (a' := ?_) #[tt, tt, tt, tt, tt, tt, tt, ff] rfl rfl (any_of HT_.out (by kernel_rfl)) (fun _ _ _ h => h) (Or.inl ⟨by rfl, ?_⟩) ?_ ?_
 rotate_left
 ·intro w'
  go_simp
  with_reducible rfl
 rotate_left
 ·exact aP
 refine pure_ (i := 7) (N := some 9) (v := ?_) (a' := ?_) #[tt, tt, tt, tt, tt, tt, tt, tt] rfl rfl (any_of HT_.out (by kernel_rfl)) (fun _ _ _ h => h) (Or.inl ⟨by rfl, ?_⟩) ?_ ?_
 rotate_left
 ·intro w'
  go_simp
  with_reducible rfl
 rotate_left
 ·exact aP
 refine done_ (done_of HT_.out (by kernel_rfl)) ?_
 try go_wp2_with (first | ((with_reducible refine gate_callee (f := 17) rfl ?_); refine goesL_ (some 45) rfl rfl Try.func17 (by kernel_rfl) rfl #[.int .u8 1, .int .i64 113] rfl aO ?_; (with_reducible refine (withyref01_Repeat.calls k 1 113 t167 _ A6.out).mono ?_); rintro e w47 ⟨rfl, hb⟩; refine ⟨_, rfl, ?_⟩; replace BK157 := bb BK157 hb; replace HB := as_ (below_step bA hb); (try clear hb); (try clear hb2); (try clear hk); (try clear hi)) | ((with_reducible refine gate_callee (f := 9) rfl ?_); refine goesL_ (some 46) rfl rfl Try.func9 (by kernel_rfl) rfl #[.agg #[.int .i64 0, .int .i64 0, .int .i64 0, .int .i64 0, .int .i64 0], .string t167, .int .i64 128] rfl aO ?_; (with_reducible refine (head_Seal.calls k 0 0 0 0 0 t167 128 t168 t169 _ A7.out).mono ?_); rintro e w48 ⟨rfl, hb⟩; refine ⟨_, rfl, ?_⟩; replace BK157 := bb BK157 hb; replace HB := as_ (below_step bA hb); (try clear hb); (try clear hb2); (try clear hk); (try clear hi)) | ((with_reducible refine gate_callee (f := 12) rfl ?_); refine goesL_ (some 51) rfl rfl Try.func12 (by kernel_rfl) rfl #[.string t158] rfl aO ?_; (with_reducible refine (head_Open.calls k t158 t170 t171 t172 t173 t174 t175 t176 _ A8.out).mono ?_); rintro e w49 ⟨rfl, hb⟩; clear A8; refine ⟨_, rfl, ?_⟩; replace BK157 := bb BK157 hb; replace HB := as_ (below_step bA hb); (try clear hb); (try clear hb2); (try clear hk); (try clear hi)) | ((with_reducible refine gate_dst (N := 12) rfl ?_); refine box_event (by rfl) (N := 12) (by rfl) (cs := #[.int .i64 0, .int .i64 0, .int .i64 0, .int .i64 0, .int .i64 0]) (t := 23) gS ?_; intro gb177 hg w50 hbox hb; have BK177 := as_ (hbox); have GW177 := gw hg bA; have GE177 := gw hg bA; have NB157_177 := nl BK157 hg; have NB177_157 := ng BK157 hg; replace BK157 := bb BK157 hb; replace HB := as_ (below_step bA hb); clear hb hbox hg; have hnb51 := NB177_157.out; have hnc51 := NB157_177.out; obtain ⟨hcz52_0, hcz52_1, hcz52_2, hcz52_3, hcz52_4⟩ := zc5 BK177; obtain ⟨hfz52_0, hfz52_1, hfz52_2, hfz52_3, hfz52_4⟩ := zf5 BK177) | ((with_reducible refine gate_callee (f := 12) rfl ?_); refine goesL_ (some 56) rfl rfl Try.func12 (by kernel_rfl) rfl #[.string (⟨#[]⟩ : ByteArray)] rfl aO ?_; (with_reducible refine (head_Open.calls k (⟨#[]⟩ : ByteArray) t178 t179 t180 t181 t182 t183 t184 _ A9.out).mono ?_); rintro e w53 ⟨rfl, hb⟩; refine ⟨_, rfl, ?_⟩; replace BK157 := as_ (blk_below (g := gb157) (o := .cells #[.int .i64 2, .int .i64 0, .int .i64 0, .int .i64 0, .int .i64 3] 23 (0, 0)) (by refine bx ?_; refine blk_far ?_ NB157_177.out _; refine bx ?_; refine blk_far ?_ NB157_177.out _; refine bx ?_; refine blk_far ?_ NB157_177.out _; refine bx ?_; refine blk_far ?_ NB157_177.out _; refine bx ?_; refine blk_far ?_ NB157_177.out _; refine bx ?_; exact BK157.out) hb); replace BK177 := as_ (blk_below (g := gb177) (o := .cells #[.int .i64 t170, .int .i64 t171, .int .i64 t172, .int .i64 t173, .int .i64 t174] 23 (0, 0)) (by refine bx ?_; refine blk_put (cs := #[.int .i64 t170, .int .i64 t171, .int .i64 t172, .int .i64 t173, .int .i64 0]) ?_ 4 _ rfl; refine bx ?_; refine blk_put (cs := #[.int .i64 t170, .int .i64 t171, .int .i64 t172, .int .i64 0, .int .i64 0]) ?_ 3 _ rfl; refine bx ?_; refine blk_put (cs := #[.int .i64 t170, .int .i64 t171, .int .i64 0, .int .i64 0, .int .i64 0]) ?_ 2 _ rfl; refine bx ?_; refine blk_put (cs := #[.int .i64 t170, .int .i64 0, .int .i64 0, .int .i64 0, .int .i64 0]) ?_ 1 _ rfl; refine bx ?_; refine blk_put (cs := #[.int .i64 0, .int .i64 0, .int .i64 0, .int .i64 0, .int .i64 0]) ?_ 0 _ rfl; refine bx ?_; exact BK177.out) hb); replace HB := as_ (below_step bA hb); (try clear hb); (try clear hb2); (try clear hk); (try clear hi)) | ((with_reducible refine gate_dst (N := 15) rfl ?_); refine box_event (by rfl) (N := 15) (by rfl) (cs := #[.int .i64 0, .int .i64 0, .int .i64 0, .int .i64 0, .int .i64 0]) (t := 23) gS ?_; intro gb185 hg w54 hbox hb; have BK185 := as_ (hbox); have GW185 := gw hg bA; have GE185 := gw hg bA; have NB157_185 := nl BK157 hg; have NB185_157 := ng BK157 hg; have NB177_185 := nl BK177 hg; have NB185_177 := ng BK177 hg; replace BK157 := bb BK157 hb; replace BK177 := bb BK177 hb; replace HB := as_ (below_step bA hb); clear hb hbox hg; have hnb55 := NB185_157.out; have hnc55 := NB157_185.out; have hnb56 := NB185_177.out; have hnc56 := NB177_185.out; obtain ⟨hcz57_0, hcz57_1, hcz57_2, hcz57_3, hcz57_4⟩ := zc5 BK185; obtain ⟨hfz57_0, hfz57_1, hfz57_2, hfz57_3, hfz57_4⟩ := zf5 BK185) | ((with_reducible refine gate_callee (f := 17) rfl ?_); refine goesL_ (some 61) rfl rfl Try.func17 (by kernel_rfl) rfl #[.int .u8 0, .int .i64 128] rfl aO ?_; (with_reducible refine (withyref01_Repeat.calls k 0 128 t186 _ A10.out).mono ?_); rintro e w58 ⟨rfl, hb⟩; refine ⟨_, rfl, ?_⟩; replace BK157 := as_ (blk_below (g := gb157) (o := .cells #[.int .i64 2, .int .i64 0, .int .i64 0, .int .i64 0, .int .i64 3] 23 (0, 0)) (by refine bx ?_; refine blk_far ?_ NB157_185.out _; refine bx ?_; refine blk_far ?_ NB157_185.out _; refine bx ?_; refine blk_far ?_ NB157_185.out _; refine bx ?_; refine blk_far ?_ NB157_185.out _; refine bx ?_; refine blk_far ?_ NB157_185.out _; refine bx ?_; exact BK157.out) hb); replace BK177 := as_ (blk_below (g := gb177) (o := .cells #[.int .i64 t170, .int .i64 t171, .int .i64 t172, .int .i64 t173, .int .i64 t174] 23 (0, 0)) (by refine bx ?_; refine blk_far ?_ NB177_185.out _; refine bx ?_; refine blk_far ?_ NB177_185.out _; refine bx ?_; refine blk_far ?_ NB177_185.out _; refine bx ?_; refine blk_far ?_ NB177_185.out _; refine bx ?_; refine blk_far ?_ NB177_185.out _; refine bx ?_; exact BK177.out) hb); replace BK185 := as_ (blk_below (g := gb185) (o := .cells #[.int .i64 t178, .int .i64 t179, .int .i64 t180, .int .i64 t181, .int .i64 t182] 23 (0, 0)) (by refine bx ?_; refine blk_put (cs := #[.int .i64 t178, .int .i64 t179, .int .i64 t180, .int .i64 t181, .int .i64 0]) ?_ 4 _ rfl; refine bx ?_; refine blk_put (cs := #[.int .i64 t178, .int .i64 t179, .int .i64 t180, .int .i64 0, .int .i64 0]) ?_ 3 _ rfl; refine bx ?_; refine blk_put (cs := #[.int .i64 t178, .int .i64 t179, .int .i64 0, .int .i64 0, .int .i64 0]) ?_ 2 _ rfl; refine bx ?_; refine blk_put (cs := #[.int .i64 t178, .int .i64 0, .int .i64 0, .int .i64 0, .int .i64 0]) ?_ 1 _ rfl; refine bx ?_; refine blk_put (cs := #[.int .i64 0, .int .i64 0, .int .i64 0, .int .i64 0, .int .i64 0]) ?_ 0 _ rfl; refine bx ?_; exact BK185.out) hb); replace HB := as_ (below_step bA hb); (try clear hb); (try clear hb2); (try clear hk); (try clear hi)) | ((with_reducible refine gate_callee (f := 12) rfl ?_); refine goesL_ (some 62) rfl rfl Try.func12 (by kernel_rfl) rfl #[.string t186] rfl aO ?_; (with_reducible refine (head_Open.calls k t186 t187 t188 t189 t190 t191 t192 t193 _ A11.out).mono ?_); rintro e w59 ⟨rfl, hb⟩; clear A11; refine ⟨_, rfl, ?_⟩; replace BK157 := bb BK157 hb; replace BK177 := bb BK177 hb; replace BK185 := bb BK185 hb; replace HB := as_ (below_step bA hb); (try clear hb); (try clear hb2); (try clear hk); (try clear hi)) | ((with_reducible refine gate_dst (N := 18) rfl ?_); refine box_event (by rfl) (N := 18) (by rfl) (cs := #[.int .i64 0, .int .i64 0, .int .i64 0, .int .i64 0, .int .i64 0]) (t := 23) gS ?_; intro gb194 hg w60 hbox hb; have BK194 := as_ (hbox); have GW194 := gw hg bA; have GE194 := gw hg bA; have NB157_194 := nl BK157 hg; have NB194_157 := ng BK157 hg; have NB177_194 := nl BK177 hg; have NB194_177 := ng BK177 hg; have NB185_194 := nl BK185 hg; have NB194_185 := ng BK185 hg; replace BK157 := bb BK157 hb; replace BK177 := bb BK177 hb; replace BK185 := bb BK185 hb; replace HB := as_ (below_step bA hb); clear hb hbox hg; have hnb61 := NB194_157.out; have hnc61 := NB157_194.out; have hnb62 := NB194_177.out; have hnc62 := NB177_194.out; have hnb63 := NB194_185.out; have hnc63 := NB185_194.out; obtain ⟨hcz64_0, hcz64_1, hcz64_2, hcz64_3, hcz64_4⟩ := zc5 BK194; obtain ⟨hfz64_0, hfz64_1, hfz64_2, hfz64_3, hfz64_4⟩ := zf5 BK194))
 have n0_ : Aside0 ((((((w60.setCell ⟨gb194, 0, none⟩ (.int .i64 t187)).setCell ⟨gb194, 1, none⟩ (.int .i64 t188)).setCell ⟨gb194, 2, none⟩ (.int .i64 t189)).setCell ⟨gb194, 3, none⟩ (.int .i64 t190)).setCell ⟨gb194, 4, none⟩ (.int .i64 t191)).heap[gb157]? = some (.cells #[.int .i64 2, .int .i64 0, .int .i64 0, .int .i64 0, .int .i64 3] 23 (0, 0))) := ⟨by refine bx ?_; refine blk_far ?_ NB157_194.out _; refine bx ?_; refine blk_far ?_ NB157_194.out _; refine bx ?_; refine blk_far ?_ NB157_194.out _; refine bx ?_; refine blk_far ?_ NB157_194.out _; refine bx ?_; refine blk_far ?_ NB157_194.out _; refine bx ?_; exact BK157.out⟩
 have n1_ : Aside0 ((((((w60.setCell ⟨gb194, 0, none⟩ (.int .i64 t187)).setCell ⟨gb194, 1, none⟩ (.int .i64 t188)).setCell ⟨gb194, 2, none⟩ (.int .i64 t189)).setCell ⟨gb194, 3, none⟩ (.int .i64 t190)).setCell ⟨gb194, 4, none⟩ (.int .i64 t191)).heap[gb177]? = some (.cells #[.int .i64 t170, .int .i64 t171, .int .i64 t172, .int .i64 t173, .int .i64 t174] 23 (0, 0))) := ⟨by refine bx ?_; refine blk_far ?_ NB177_194.out _; refine bx ?_; refine blk_far ?_ NB177_194.out _; refine bx ?_; refine blk_far ?_ NB177_194.out _; refine bx ?_; refine blk_far ?_ NB177_194.out _; refine bx ?_; refine blk_far ?_ NB177_194.out _; refine bx ?_; exact BK177.out⟩
 have n2_ : Aside0 ((((((w60.setCell ⟨gb194, 0, none⟩ (.int .i64 t187)).setCell ⟨gb194, 1, none⟩ (.int .i64 t188)).setCell ⟨gb194, 2, none⟩ (.int .i64 t189)).setCell ⟨gb194, 3, none⟩ (.int .i64 t190)).setCell ⟨gb194, 4, none⟩ (.int .i64 t191)).heap[gb185]? = some (.cells #[.int .i64 t178, .int .i64 t179, .int .i64 t180, .int .i64 t181, .int .i64 t182] 23 (0, 0))) := ⟨by refine bx ?_; refine blk_far ?_ NB185_194.out _; refine bx ?_; refine blk_far ?_ NB185_194.out _; refine bx ?_; refine blk_far ?_ NB185_194.out _; refine bx ?_; refine blk_far ?_ NB185_194.out _; refine bx ?_; refine blk_far ?_ NB185_194.out _; refine bx ?_; exact BK185.out⟩
 have n3_ : Aside0 ((((((w60.setCell ⟨gb194, 0, none⟩ (.int .i64 t187)).setCell ⟨gb194, 1, none⟩ (.int .i64 t188)).setCell ⟨gb194, 2, none⟩ (.int .i64 t189)).setCell ⟨gb194, 3, none⟩ (.int .i64 t190)).setCell ⟨gb194, 4, none⟩ (.int .i64 t191)).heap[gb194]? = some (.cells #[.int .i64 t187, .int .i64 t188, .int .i64 t189, .int .i64 t190, .int .i64 t191] 23 (0, 0))) := ⟨by refine bx ?_; refine blk_put (cs := #[.int .i64 t187, .int .i64 t188, .int .i64 t189, .int .i64 t190, .int .i64 0]) ?_ 4 _ rfl; refine bx ?_; refine blk_put (cs := #[.int .i64 t187, .int .i64 t188, .int .i64 t189, .int .i64 0, .int .i64 0]) ?_ 3 _ rfl; refine bx ?_; refine blk_put (cs := #[.int .i64 t187, .int .i64 t188, .int .i64 0, .int .i64 0, .int .i64 0]) ?_ 2 _ rfl; refine bx ?_; refine blk_put (cs := #[.int .i64 t187, .int .i64 0, .int .i64 0, .int .i64 0, .int .i64 0]) ?_ 1 _ rfl; refine bx ?_; refine blk_put (cs := #[.int .i64 0, .int .i64 0, .int .i64 0, .int .i64 0, .int .i64 0]) ?_ 0 _ rfl; refine bx ?_; exact BK194.out⟩
 have n4_ : Aside0 (Below w.heap.size w (((((w60.setCell ⟨gb194, 0, none⟩ (.int .i64 t187)).setCell ⟨gb194, 1, none⟩ (.int .i64 t188)).setCell ⟨gb194, 2, none⟩ (.int .i64 t189)).setCell ⟨gb194, 3, none⟩ (.int .i64 t190)).setCell ⟨gb194, 4, none⟩ (.int .i64 t191))) := ⟨by repeat (first | (with_reducible first | exact HB.out | apply below_alloc | apply pw_below_drewN | apply below_drew1 | refine below_set ?_ GE157.out | refine below_set ?_ GE177.out | refine below_set ?_ GE185.out | refine below_set ?_ GE194.out) | exact HB.out)⟩
 (try clear BK157)
 (try clear BK177)
 (try clear BK185)
 (try clear BK194)
 (try clear HB)
 generalize (((((w60.setCell ⟨gb194, 0, none⟩ (.int .i64 t187)).setCell ⟨gb194, 1, none⟩ (.int .i64 t188)).setCell ⟨gb194, 2, none⟩ (.int .i64 t189)).setCell ⟨gb194, 3, none⟩ (.int .i64 t190)).setCell ⟨gb194, 4, none⟩ (.int .i64 t191)) = w65 at n0_ n1_ n2_ n3_ n4_ ⊢
 have BK157 := n0_
 have BK177 := n1_
 have BK185 := n2_
 have BK194 := n3_
 have HB := n4_
 clear n0_ n1_ n2_ n3_ n4_
 replace BK157 := as_ (blk_drew BK157.out)
 replace BK177 := as_ (blk_drew BK177.out)
 replace BK185 := as_ (blk_drew BK185.out)
 replace BK194 := as_ (blk_drew BK194.out)
 replace HB := as_ (below_drew1 HB.out)
 have p15 : 0 ≤ (0 : Int) := (by omega)
 have q15 : 0 < t158.size := (by have : (0 : Int) < (t158.size : Int) := of_decide_eq_true aM; omega)
 have hx15 : ∀ h : 0 < t158.size, ((t158[0]'h).toNat : Int) = bt t158 0 := bt_at t158 0
 clear p15
 have qi15 : (0 < (t158.size : Int)) = True := eq_true (of_decide_eq_true aM)
 replace q15 := eq_true q15
 have p18 : 0 ≤ (8 : Int) := (by omega)
 have q18 : 8 < t158.size := (by have : (8 : Int) < (t158.size : Int) := of_decide_eq_true aM; omega)
 have hx18 : ∀ h : 8 < t158.size, ((t158[8]'h).toNat : Int) = bt t158 8 := bt_at t158 8
 clear p18
 have qi18 : (8 < (t158.size : Int)) = True := eq_true (of_decide_eq_true aM)
 replace q18 := eq_true q18
 refine start_ (n := 75) (S := fun w' => w'.cell? ⟨gb177, 0, none⟩ = some (.int .i64 t170) ∧ w'.cell? ⟨gb177, 1, none⟩ = some (.int .i64 t171) ∧ w'.cell? ⟨gb177, 2, none⟩ = some (.int .i64 t172) ∧ w'.cell? ⟨gb177, 3, none⟩ = some (.int .i64 t173) ∧ w'.cell? ⟨gb177, 4, none⟩ = some (.int .i64 t174) ∧ w'.cell? ⟨gb157, 0, none⟩ = some (.int .i64 2) ∧ w'.cell? ⟨gb157, 1, none⟩ = some (.int .i64 0) ∧ w'.cell? ⟨gb157, 2, none⟩ = some (.int .i64 0) ∧ w'.cell? ⟨gb157, 3, none⟩ = some (.int .i64 0) ∧ w'.cell? ⟨gb157, 4, none⟩ = some (.int .i64 3)) (ds := []) #[ff, ff, ff, ff, ff, ff, ff, ff, ff, ff, ff, ff, ff, ff, ff, ff, ff, ff, ff, ff, ff, ff, ff, ff, ff, ff, ff, ff, ff, ff, ff, ff, ff, ff, ff, ff, ff, ff, ff, ff, ff, ff, ff, ff, ff, ff, ff, ff, ff, ff, ff, ff, ff, ff, ff, ff, ff, ff, ff, ff, ff, ff, ff, ff, ff, ff, ff, ff, ff, ff, ff, ff, ff, ff, ff] (by kernel_rfl) rfl rfl ⟨(blk_cell BK177.out 0).trans rfl, (blk_cell BK177.out 1).trans rfl, (blk_cell BK177.out 2).trans rfl, (blk_cell BK177.out 3).trans rfl, (blk_cell BK177.out 4).trans rfl, (blk_cell BK157.out 0).trans rfl, (blk_cell BK157.out 1).trans rfl, (blk_cell BK157.out 2).trans rfl, (blk_cell BK157.out 3).trans rfl, (blk_cell BK157.out 4).trans rfl⟩ (fun hHeld => ?_); refine with_tabW withylaw07_fixed.tab10 withylaw07_fixed.bits10 (fun HT_ HW_ => ?_)
 generalize w65.drew = w66 at BK157 BK177 BK185 BK194 HB hHeld ⊢
 refine pure_ (i := 0) (N := some 66) (v := ?_) (a' := ?_) #[tt, ff, ff, ff, ff, ff, ff, ff, ff, ff, ff, ff, ff, ff, ff, ff, ff, ff, ff, ff, ff, ff, ff, ff, ff, ff, ff, ff, ff, ff, ff, ff, ff, ff, ff, ff, ff, ff, ff, ff, ff, ff, ff, ff, ff, ff, ff, ff, ff, ff, ff, ff, ff, ff, ff, ff, ff, ff, ff, ff, ff, ff, ff, ff, ff, ff, ff, ff, ff, ff, ff, ff, ff, ff, ff] rfl rfl (any_of HT_.out (by kernel_rfl)) (fun _ _ _ h => h) (Or.inl ⟨by rfl, ?_⟩) ?_ ?_
 rotate_left
 ·intro w'
  go_simp
  with_reducible rfl
 rotate_left
 ·exact aP
 refine pure_ (i := 1) (N := some 67) (v := ?_) (a' := ?_) #[tt, tt, ff, ff, ff, ff, ff, ff, ff, ff, ff, ff, ff, ff, ff, ff, ff, ff, ff, ff, ff, ff, ff, ff, ff, ff, ff, ff, ff, ff, ff, ff, ff, ff, ff, ff, ff, ff, ff, ff, ff, ff, ff, ff, ff, ff, ff, ff, ff, ff, ff, ff, ff, ff, ff, ff, ff, ff, ff, ff, ff, ff, ff, ff, ff, ff, ff, ff, ff, ff, ff, ff, ff, ff, ff] rfl rfl (any_of HT_.out (by kernel_rfl)) (fun _ _ _ h => h) (Or.inl ⟨by rfl, ?_⟩) ?_ ?_
 rotate_left
 ·intro w'
  go_simp
  with_reducible rfl
 rotate_left
 ·exact aP
 refine pure_ (i := 2) (N := some 68) (v := ?_) (a' := ?_) #[tt, tt, tt, ff, ff, ff, ff, ff, ff, ff, ff, ff, ff, ff, ff, ff, ff, ff, ff, ff, ff, ff, ff, ff, ff, ff, ff, ff, ff, ff, ff, ff, ff, ff, ff, ff, ff, ff, ff, ff, ff, ff, ff, ff, ff, ff, ff, ff, ff, ff, ff, ff, ff, ff, ff, ff, ff, ff, ff, ff, ff, ff, ff, ff, ff, ff, ff, ff, ff, ff, ff, ff, ff, ff, ff] rfl rfl (any_of HT_.out (by kernel_rfl)) (fun _ _ _ h => h) (Or.inl ⟨by rfl, ?_⟩) ?_ ?_
 rotate_left
 ·intro w'
  go_simp
  with_reducible rfl
 rotate_left
 ·exact aP
 refine pure_ (i := 3) (N := some 69) (v := ?_) (a' := ?_) #[tt, tt, tt, tt, ff, ff, ff, ff, ff, ff, ff, ff, ff, ff, ff, ff, ff, ff, ff, ff, ff, ff, ff, ff, ff, ff, ff, ff, ff, ff, ff, ff, ff, ff, ff, ff, ff, ff, ff, ff, ff, ff, ff, ff, ff, ff, ff, ff, ff, ff, ff, ff, ff, ff, ff, ff, ff, ff, ff, ff, ff, ff, ff, ff, ff, ff, ff, ff, ff, ff, ff, ff, ff, ff, ff] rfl rfl (any_of HT_.out (by kernel_rfl)) (fun _ _ _ h => h) (Or.inl ⟨by rfl, ?_⟩) ?_ ?_
 rotate_left
 ·intro w'
  go_simp
  with_reducible rfl
 rotate_left
 ·exact aP
 refine pure_ (i := 4) (N := some 70) (v := ?_) (a' := ?_) #[tt, tt, tt, tt, tt, ff, ff, ff, ff, ff, ff, ff, ff, ff, ff, ff, ff, ff, ff, ff, ff, ff, ff, ff, ff, ff, ff, ff, ff, ff, ff, ff, ff, ff, ff, ff, ff, ff, ff, ff, ff, ff, ff, ff, ff, ff, ff, ff, ff, ff, ff, ff, ff, ff, ff, ff, ff, ff, ff, ff, ff, ff, ff, ff, ff, ff, ff, ff, ff, ff, ff, ff, ff, ff, ff] rfl rfl (any_of HT_.out (by kernel_rfl)) (fun _ _ _ h => h) (Or.inl ⟨by rfl, ?_⟩) ?_ ?_
 rotate_left
 ·intro w'
  go_simp
  with_reducible rfl
 rotate_left
 ·exact aP
 refine pure_ (i := 5) (N := some 71) (v := ?_) (a' := ?_) #[tt, tt, tt, tt, tt, tt, ff, ff, ff, ff, ff, ff, ff, ff, ff, ff, ff, ff, ff, ff, ff, ff, ff, ff, ff, ff, ff, ff, ff, ff, ff, ff, ff, ff, ff, ff, ff, ff, ff, ff, ff, ff, ff, ff, ff, ff, ff, ff, ff, ff, ff, ff, ff, ff, ff, ff, ff, ff, ff, ff, ff, ff, ff, ff, ff, ff, ff, ff, ff, ff, ff, ff, ff, ff, ff] rfl rfl (any_of HT_.out (by kernel_rfl)) (fun _ _ _ h => h) (Or.inl ⟨by rfl, ?_⟩) ?_ ?_
 rotate_left
 ·intro w'
  go_simp
  with_reducible rfl
 rotate_left
 ·exact aP
 refine pure_ (i := 6) (N := some 72) (v := ?_) (a' := ?_) #[tt, tt, tt, tt, tt, tt, tt, ff, ff, ff, ff, ff, ff, ff, ff, ff, ff, ff, ff, ff, ff, ff, ff, ff, ff, ff, ff, ff, ff, ff, ff, ff, ff, ff, ff, ff, ff, ff, ff, ff, ff, ff, ff, ff, ff, ff, ff, ff, ff, ff, ff, ff, ff, ff, ff, ff, ff, ff, ff, ff, ff, ff, ff, ff, ff, ff, ff, ff, ff, ff, ff, ff, ff, ff, ff] rfl rfl (any_of HT_.out (by kernel_rfl)) (fun _ _ _ h => h) (Or.inl ⟨by rfl, ?_⟩) ?_ ?_
 rotate_left
 ·intro w'
  go_simp
  with_reducible rfl
 rotate_left
 ·exact aP
 refine pure_ (i := 7) (N := some 73) (v := ?_) (a' := ?_) #[tt, tt, tt, tt, tt, tt, tt, tt, ff, ff, ff, ff, ff, ff, ff, ff, ff, ff, ff, ff, ff, ff, ff, ff, ff, ff, ff, ff, ff, ff, ff, ff, ff, ff, ff, ff, ff, ff, ff, ff, ff, ff, ff, ff, ff, ff, ff, ff, ff, ff, ff, ff, ff, ff, ff, ff, ff, ff, ff, ff, ff, ff, ff, ff, ff, ff, ff, ff, ff, ff, ff, ff, ff, ff, ff] rfl rfl (any_of HT_.out (by kernel_rfl)) (fun _ _ _ h => h) (Or.inl ⟨by rfl, ?_⟩) ?_ ?_
 rotate_left
 ·intro w'
  go_simp
  with_reducible rfl
 rotate_left
 ·exact aP
 refine pure_ (i := 8) (N := some 74) (v := ?_) (a' := ?_) #[tt, tt, tt, tt, tt, tt, tt, tt, tt, ff, ff, ff, ff, ff, ff, ff, ff, ff, ff, ff, ff, ff, ff, ff, ff, ff, ff, ff, ff, ff, ff, ff, ff, ff, ff, ff, ff, ff, ff, ff, ff, ff, ff, ff, ff, ff, ff, ff, ff, ff, ff, ff, ff, ff, ff, ff, ff, ff, ff, ff, ff, ff, ff, ff, ff, ff, ff, ff, ff, ff, ff, ff, ff, ff, ff] rfl rfl (any_of HT_.out (by kernel_rfl)) (fun _ _ _ h => h) (Or.inl ⟨by rfl, ?_⟩) ?_ ?_
 rotate_left
 ·intro w'
  go_simp
  with_reducible rfl
 rotate_left
 ·exact aP
 refine take_ (i := 9) (N := some 75) (v := ?_) (a' := ?_) #[tt, tt, tt, tt, tt, tt, tt, tt, tt, tt, ff, ff, ff, ff, ff, ff, ff, ff, ff, ff, ff, ff, ff, ff, ff, ff, ff, ff, ff, ff, ff, ff, ff, ff, ff, ff, ff, ff, ff, ff, ff, ff, ff, ff, ff, ff, ff, ff, ff, ff, ff, ff, ff, ff, ff, ff, ff, ff, ff, ff, ff, ff, ff, ff, ff, ff, ff, ff, ff, ff, ff, ff, ff, ff, ff] rfl rfl (take_ofW HT_.out HW_.out (by kernel_rfl)) (fun _ _ _ h => h) (Or.inl ⟨by rfl, ?_⟩) hHeld ?_ ?_
 rotate_left
 ·rintro w' ⟨s0, s1, s2, s3, s4, s5, s6, s7, s8, s9⟩
  go_simp
  with_reducible rfl
 rotate_left
 ·exact aP
 refine pure_ (i := 10) (N := some 76) (v := ?_) (a' := ?_) #[tt, tt, tt, tt, tt, tt, tt, tt, tt, tt, tt, ff, ff, ff, ff, ff, ff, ff, ff, ff, ff, ff, ff, ff, ff, ff, ff, ff, ff, ff, ff, ff, ff, ff, ff, ff, ff, ff, ff, ff, ff, ff, ff, ff, ff, ff, ff, ff, ff, ff, ff, ff, ff, ff, ff, ff, ff, ff, ff, ff, ff, ff, ff, ff, ff, ff, ff, ff, ff, ff, ff, ff, ff, ff, ff] rfl rfl (any_of HT_.out (by kernel_rfl)) (fun _ _ _ h => h) (Or.inl ⟨by rfl, ?_⟩) ?_ ?_
 rotate_left
 ·intro w'
  go_simp
  with_reducible rfl
 rotate_left
 ·exact aP
 refine pure_ (i := 11) (N := some 77) (v := ?_) (a' := ?_) #[tt, tt, tt, tt, tt, tt, tt, tt, tt, tt, tt, tt, ff, ff, ff, ff, ff, ff, ff, ff, ff, ff, ff, ff, ff, ff, ff, ff, ff, ff, ff, ff, ff, ff, ff, ff, ff, ff, ff, ff, ff, ff, ff, ff, ff, ff, ff, ff, ff, ff, ff, ff, ff, ff, ff, ff, ff, ff, ff, ff, ff, ff, ff, ff, ff, ff, ff, ff, ff, ff, ff, ff, ff, ff, ff] rfl rfl (any_of HT_.out (by kernel_rfl)) (fun _ _ _ h => h) (Or.inl ⟨by rfl, ?_⟩) ?_ ?_
 rotate_left
 ·intro w'
  go_simp
  with_reducible rfl
 rotate_left
 ·exact aP
 refine pure_ (i := 12) (N := some 78) (v := ?_) (a' := ?_) #[tt, tt, tt, tt, tt, tt, tt, tt, tt, tt, tt, tt, tt, ff, ff, ff, ff, ff, ff, ff, ff, ff, ff, ff, ff, ff, ff, ff, ff, ff, ff, ff, ff, ff, ff, ff, ff, ff, ff, ff, ff, ff, ff, ff, ff, ff, ff, ff, ff, ff, ff, ff, ff, ff, ff, ff, ff, ff, ff, ff, ff, ff, ff, ff, ff, ff, ff, ff, ff, ff, ff, ff, ff, ff, ff] rfl rfl (any_of HT_.out (by kernel_rfl)) (fun _ _ _ h => h) (Or.inl ⟨by rfl, ?_⟩) ?_ ?_
 rotate_left
 ·intro w'
  go_simp
  with_reducible rfl
 rotate_left
 ·exact aP
 refine pure_ (i := 13) (N := some 79) (v := ?_) (a' := ?_) #[tt, tt, tt, tt, tt, tt, tt, tt, tt, tt, tt, tt, tt, tt, ff, ff, ff, ff, ff, ff, ff, ff, ff, ff, ff, ff, ff, ff, ff, ff, ff, ff, ff, ff, ff, ff, ff, ff, ff, ff, ff, ff, ff, ff, ff, ff, ff, ff, ff, ff, ff, ff, ff, ff, ff, ff, ff, ff, ff, ff, ff, ff, ff, ff, ff, ff, ff, ff, ff, ff, ff, ff, ff, ff, ff] rfl rfl (any_of HT_.out (by kernel_rfl)) (fun _ _ _ h => h) (Or.inl ⟨by rfl, ?_⟩) ?_ ?_
 rotate_left
 ·intro w'
  go_simp
  with_reducible rfl
 rotate_left
 ·exact aP
 refine take_ (i := 14) (N := some 80) (v := ?_) (a' := ?_) #[tt, tt, tt, tt, tt, tt, tt, tt, tt, tt, tt, tt, tt, tt, tt, ff, ff, ff, ff, ff, ff, ff, ff, ff, ff, ff, ff, ff, ff, ff, ff, ff, ff, ff, ff, ff, ff, ff, ff, ff, ff, ff, ff, ff, ff, ff, ff, ff, ff, ff, ff, ff, ff, ff, ff, ff, ff, ff, ff, ff, ff, ff, ff, ff, ff, ff, ff, ff, ff, ff, ff, ff, ff, ff, ff] rfl rfl (take_ofW HT_.out HW_.out (by kernel_rfl)) (fun _ _ _ h => h) (Or.inl ⟨by rfl, ?_⟩) hHeld ?_ ?_
 rotate_left
 ·rintro w' ⟨s0, s1, s2, s3, s4, s5, s6, s7, s8, s9⟩
  go_simp
  with_reducible rfl
 rotate_left
 ·exact aP
 refine pure_ (i := 15) (N := some 81) (v := ?_) (a' := ?_) #[tt, tt, tt, tt, tt, tt, tt, tt, tt, tt, tt, tt, tt, tt, tt, tt, ff, ff, ff, ff, ff, ff, ff, ff, ff, ff, ff, ff, ff, ff, ff, ff, ff, ff, ff, ff, ff, ff, ff, ff, ff, ff, ff, ff, ff, ff, ff, ff, ff, ff, ff, ff, ff, ff, ff, ff, ff, ff, ff, ff, ff, ff, ff, ff, ff, ff, ff, ff, ff, ff, ff, ff, ff, ff, ff] rfl rfl (any_of HT_.out (by kernel_rfl)) (fun _ _ _ h => h) (Or.inl ⟨by rfl, ?_⟩) ?_ ?_
 rotate_left
 ·intro w'
  go_simp
  with_reducible rfl
 rotate_left
 ·exact aP
 refine pure_ (i := 16) (N := some 82) (v := ?_) (a' := ?_) #[tt, tt, tt, tt, tt, tt, tt, tt, tt, tt, tt, tt, tt, tt, tt, tt, tt, ff, ff, ff, ff, ff, ff, ff, ff, ff, ff, ff, ff, ff, ff, ff, ff, ff, ff, ff, ff, ff, ff, ff, ff, ff, ff, ff, ff, ff, ff, ff, ff, ff, ff, ff, ff, ff, ff, ff, ff, ff, ff, ff, ff, ff, ff, ff, ff, ff, ff, ff, ff, ff, ff, ff, ff, ff, ff] rfl rfl (any_of HT_.out (by kernel_rfl)) (fun _ _ _ h => h) (Or.inl ⟨by rfl, ?_⟩) ?_ ?_
 rotate_left
 ·intro w'
  go_simp
  with_reducible rfl
 rotate_left
 ·exact aP
 refine pure_ (i := 17) (N := some 83) (v := ?_) (a' := ?_) #[tt, tt, tt, tt, tt, tt, tt, tt, tt, tt, tt, tt, tt, tt, tt, tt, tt, tt, ff, ff, ff, ff, ff, ff, ff, ff, ff, ff, ff, ff, ff, ff, ff, ff, ff, ff, ff, ff, ff, ff, ff, ff, ff, ff, ff, ff, ff, ff, ff, ff, ff, ff, ff, ff, ff, ff, ff, ff, ff, ff, ff, ff, ff, ff, ff, ff, ff, ff, ff, ff, ff, ff, ff, ff, ff] rfl rfl (any_of HT_.out (by kernel_rfl)) (fun _ _ _ h => h) (Or.inl ⟨by rfl, ?_⟩) ?_ ?_
 rotate_left
 ·intro w'
  go_simp
  with_reducible rfl
 rotate_left
 ·exact aP
 refine pure_ (i := 18) (N := some 84) (v := ?_) (a' := ?_) #[tt, tt, tt, tt, tt, tt, tt, tt, tt, tt, tt, tt, tt, tt, tt, tt, tt, tt, tt, ff, ff, ff, ff, ff, ff, ff, ff, ff, ff, ff, ff, ff, ff, ff, ff, ff, ff, ff, ff, ff, ff, ff, ff, ff, ff, ff, ff, ff, ff, ff, ff, ff, ff, ff, ff, ff, ff, ff, ff, ff, ff, ff, ff, ff, ff, ff, ff, ff, ff, ff, ff, ff, ff, ff, ff] rfl rfl (any_of HT_.out (by kernel_rfl)) (fun _ _ _ h => h) (Or.inl ⟨by rfl, ?_⟩) ?_ ?_
 rotate_left
 ·intro w'
  go_simp
  with_reducible rfl
 rotate_left
 ·exact aP
 refine pure_ (i := 19) (N := some 85) (v := ?_) (a' := ?_) #[tt, tt, tt, tt, tt, tt, tt, tt, tt, tt, tt, tt, tt, tt, tt, tt, tt, tt, tt, tt, ff, ff, ff, ff, ff, ff, ff, ff, ff, ff, ff, ff, ff, ff, ff, ff, ff, ff, ff, ff, ff, ff, ff, ff, ff, ff, ff, ff, ff, ff, ff, ff, ff, ff, ff, ff, ff, ff, ff, ff, ff, ff, ff, ff, ff, ff, ff, ff, ff, ff, ff, ff, ff, ff, ff] rfl rfl (any_of HT_.out (by kernel_rfl)) (fun _ _ _ h => h) (Or.inl ⟨by rfl, ?_⟩) ?_ ?_
 rotate_left
 ·intro w'
  go_simp
  with_reducible rfl
 rotate_left
 ·exact aP
 refine one_ (i := 20) (N := some 86) #[tt, tt, tt, tt, tt, tt, tt, tt, tt, tt, tt, tt, tt, tt, tt, tt, tt, tt, tt, tt, tt, ff, ff, ff, ff, ff, ff, ff, ff, ff, ff, ff, ff, ff, ff, ff, ff, ff, ff, ff, ff, ff, ff, ff, ff, ff, ff, ff, ff, ff, ff, ff, ff, ff, ff, ff, ff, ff, ff, ff, ff, ff, ff, ff, ff, ff, ff, ff, ff, ff, ff, ff, ff, ff, ff] rfl rfl (one_of HT_.out (by kernel_rfl)) (by decide) (fun K hK => ?_)
 refine goes_ Try.func17 (by kernel_rfl) rfl #[.int .u8 0, .int .i64 112] (by rfl) rfl rfl aO ?_
 with_reducible refine (withyref01_Repeat.calls k 0 112 t195 _ A22.out).mono ?_
 rintro e w67 ⟨rfl, hb⟩
 refine ⟨_, rfl, ?_⟩
 replace BK157 := bb BK157 hb
 replace BK177 := bb BK177 hb
 replace BK185 := bb BK185 hb
 replace BK194 := bb BK194 hb
 replace HB := as_ (below_step bA hb)
 (try clear hb)
 (try clear hb2)
 (try clear hk)
 (try clear hi)
 refine hK.out _ _ ⟨(blk_cell BK177.out 0).trans rfl, (blk_cell BK177.out 1).trans rfl, (blk_cell BK177.out 2).trans rfl, (blk_cell BK177.out 3).trans rfl, (blk_cell BK177.out 4).trans rfl, (blk_cell BK157.out 0).trans rfl, (blk_cell BK157.out 1).trans rfl, (blk_cell BK157.out 2).trans rfl, (blk_cell BK157.out 3).trans rfl, (blk_cell BK157.out 4).trans rfl⟩ (fun hHeld => ?_)
 clear hK K
 refine norm_ (a' := ?_) ?_ ?_
 rotate_left
 ·show Act.put _ (some 86) _ = _
  simp only [Act.put, List.setIfInBounds_toArray, List.set_cons_zero, List.set_cons_succ, i64_w, i32_w]
  rfl
 refine pure_ (i := 21) (N := some 87) (v := ?_) (a' := ?_) #[tt, tt, tt, tt, tt, tt, tt, tt, tt, tt, tt, tt, tt, tt, tt, tt, tt, tt, tt, tt, tt, tt, ff, ff, ff, ff, ff, ff, ff, ff, ff, ff, ff, ff, ff, ff, ff, ff, ff, ff, ff, ff, ff, ff, ff, ff, ff, ff, ff, ff, ff, ff, ff, ff, ff, ff, ff, ff, ff, ff, ff, ff, ff, ff, ff, ff, ff, ff, ff, ff, ff, ff, ff, ff, ff] rfl rfl (any_of HT_.out (by kernel_rfl)) (fun _ _ _ h => h) (Or.inl ⟨by rfl, ?_⟩) ?_ ?_
 rotate_left
 ·intro w'
  go_simp
  with_reducible rfl
 rotate_left
 ·exact aP
 refine pure_ (i := 22) (N := some 88) (v := ?_) (a' := ?_) #[tt, tt, tt, tt, tt, tt, tt, tt, tt, tt, tt, tt, tt, tt, tt, tt, tt, tt, tt, tt, tt, tt, tt, ff, ff, ff, ff, ff, ff, ff, ff, ff, ff, ff, ff, ff, ff, ff, ff, ff, ff, ff, ff, ff, ff, ff, ff, ff, ff, ff, ff, ff, ff, ff, ff, ff, ff, ff, ff, ff, ff, ff, ff, ff, ff, ff, ff, ff, ff, ff, ff, ff, ff, ff, ff] rfl rfl (any_of HT_.out (by kernel_rfl)) (fun _ _ _ h => h) (Or.inl ⟨by rfl, ?_⟩) ?_ ?_
 rotate_left
 ·intro w'
  go_simp
  with_reducible rfl
 rotate_left
 ·exact aP
 refine pure_ (i := 23) (N := some 89) (v := ?_) (a' := ?_) #[tt, tt, tt, tt, tt, tt, tt, tt, tt, tt, tt, tt, tt, tt, tt, tt, tt, tt, tt, tt, tt, tt, tt, tt, ff, ff, ff, ff, ff, ff, ff, ff, ff, ff, ff, ff, ff, ff, ff, ff, ff, ff, ff, ff, ff, ff, ff, ff, ff, ff, ff, ff, ff, ff, ff, ff, ff, ff, ff, ff, ff, ff, ff, ff, ff, ff, ff, ff, ff, ff, ff, ff, ff, ff, ff] rfl rfl (any_of HT_.out (by kernel_rfl)) (fun _ _ _ h => h) (Or.inl ⟨by rfl, ?_⟩) ?_ ?_
 rotate_left
 ·intro w'
  go_simp
  with_reducible rfl
 rotate_left
 ·exact aP
 refine pure_ (i := 24) (N := some 90) (v := ?_) (a' := ?_) #[tt, tt, tt, tt, tt, tt, tt, tt, tt, tt, tt, tt, tt, tt, tt, tt, tt, tt, tt, tt, tt, tt, tt, tt, tt, ff, ff, ff, ff, ff, ff, ff, ff, ff, ff, ff, ff, ff, ff, ff, ff, ff, ff, ff, ff, ff, ff, ff, ff, ff, ff, ff, ff, ff, ff, ff, ff, ff, ff, ff, ff, ff, ff, ff, ff, ff, ff, ff, ff, ff, ff, ff, ff, ff, ff] rfl rfl (any_of HT_.out (by kernel_rfl)) (fun _ _ _ h => h) (Or.inl ⟨by rfl, ?_⟩) ?_ ?_
 rotate_left
 ·intro w'
  go_simp
  with_reducible rfl
 rotate_left
 ·exact aP
 refine pure_ (i := 25) (N := some 91) (v := ?_) (a' := ?_) #[tt, tt, tt, tt, tt, tt, tt, tt, tt, tt, tt, tt, tt, tt, tt, tt, tt, tt, tt, tt, tt, tt, tt, tt, tt, tt, ff, ff, ff, ff, ff, ff, ff, ff, ff, ff, ff, ff, ff, ff, ff, ff, ff, ff, ff, ff, ff, ff, ff, ff, ff, ff, ff, ff, ff, ff, ff, ff, ff, ff, ff, ff, ff, ff, ff, ff, ff, ff, ff, ff, ff, ff, ff, ff, ff] rfl rfl (any_of HT_.out (by kernel_rfl)) (fun _ _ _ h => h) (Or.inl ⟨by rfl, ?_⟩) ?_ ?_
 rotate_left
 ·intro w'
  go_simp
  with_reducible rfl
 rotate_left
 ·exact aP
 refine pure_ (i := 26) (N := some 92) (v := ?_) (a' := ?_) #[tt, tt, tt, tt, tt, tt, tt, tt, tt, tt, tt, tt, tt, tt, tt, tt, tt, tt, tt, tt, tt, tt, tt, tt, tt, tt, tt, ff, ff, ff, ff, ff, ff, ff, ff, ff, ff, ff, ff, ff, ff, ff, ff, ff, ff, ff, ff, ff, ff, ff, ff, ff, ff, ff, ff, ff, ff, ff, ff, ff, ff, ff, ff, ff, ff, ff, ff, ff, ff, ff, ff, ff, ff, ff, ff] rfl rfl (any_of HT_.out (by kernel_rfl)) (fun _ _ _ h => h) (Or.inl ⟨by rfl, ?_⟩) ?_ ?_
 rotate_left
 ·intro w'
  go_simp
  with_reducible rfl
 rotate_left
 ·exact aP
 refine pure_ (i := 27) (N := some 93) (v := ?_) (a' := ?_) #[tt, tt, tt, tt, tt, tt, tt, tt, tt, tt, tt, tt, tt, tt, tt, tt, tt, tt, tt, tt, tt, tt, tt, tt, tt, tt, tt, tt, ff, ff, ff, ff, ff, ff, ff, ff, ff, ff, ff, ff, ff, ff, ff, ff, ff, ff, ff, ff, ff, ff, ff, ff, ff, ff, ff, ff, ff, ff, ff, ff, ff, ff, ff, ff, ff, ff, ff, ff, ff, ff, ff, ff, ff, ff, ff] rfl rfl (any_of HT_.out (by kernel_rfl)) (fun _ _ _ h => h) (Or.inl ⟨by rfl, ?_⟩) ?_ ?_
 rotate_left
 ·intro w'
  go_simp
  with_reducible rfl
 rotate_left
 ·exact aP
 refine pure_ (i := 28) (N := some 94) (v := ?_) (a' := ?_) #[tt, tt, tt, tt, tt, tt, tt, tt, tt, tt, tt, tt, tt, tt, tt, tt, tt, tt, tt, tt, tt, tt, tt, tt, tt, tt, tt, tt, tt, ff, ff, ff, ff, ff, ff, ff, ff, ff, ff, ff, ff, ff, ff, ff, ff, ff, ff, ff, ff, ff, ff, ff, ff, ff, ff, ff, ff, ff, ff, ff, ff, ff, ff, ff, ff, ff, ff, ff, ff, ff, ff, ff, ff, ff, ff] rfl rfl (any_of HT_.out (by kernel_rfl)) (fun _ _ _ h => h) (Or.inl ⟨by rfl, ?_⟩) ?_ ?_
 rotate_left
 ·intro w'
  go_simp
  with_reducible rfl
 rotate_left
 ·exact aP
 refine pure_ (i := 29) (N := some 95) (v := ?_) (a' := ?_) #[tt, tt, tt, tt, tt, tt, tt, tt, tt, tt, tt, tt, tt, tt, tt, tt, tt, tt, tt, tt, tt, tt, tt, tt, tt, tt, tt, tt, tt, tt, ff, ff, ff, ff, ff, ff, ff, ff, ff, ff, ff, ff, ff, ff, ff, ff, ff, ff, ff, ff, ff, ff, ff, ff, ff, ff, ff, ff, ff, ff, ff, ff, ff, ff, ff, ff, ff, ff, ff, ff, ff, ff, ff, ff, ff] rfl rfl (any_of HT_.out (by kernel_rfl)) (fun _ _ _ h => h) (Or.inl ⟨by rfl, ?_⟩) ?_ ?_
 rotate_left
 ·intro w'
  go_simp
  with_reducible rfl
 rotate_left
 ·exact aP
 refine pure_ (i := 30) (N := some 96) (v := ?_) (a' := ?_) #[tt, tt, tt, tt, tt, tt, tt, tt, tt, tt, tt, tt, tt, tt, tt, tt, tt, tt, tt, tt, tt, tt, tt, tt, tt, tt, tt, tt, tt, tt, tt, ff, ff, ff, ff, ff, ff, ff, ff, ff, ff, ff, ff, ff, ff, ff, ff, ff, ff, ff, ff, ff, ff, ff, ff, ff, ff, ff, ff, ff, ff, ff, ff, ff, ff, ff, ff, ff, ff, ff, ff, ff, ff, ff, ff] rfl rfl (any_of HT_.out (by kernel_rfl)) (fun _ _ _ h => h) (Or.inl ⟨by rfl, ?_⟩) ?_ ?_
 rotate_left
 ·intro w'
  go_simp
  with_reducible rfl
 rotate_left
 ·exact aP
 refine pure_ (i := 31) (N := some 97) (v := ?_) (a' := ?_) #[tt, tt, tt, tt, tt, tt, tt, tt, tt, tt, tt, tt, tt, tt, tt, tt, tt, tt, tt, tt, tt, tt, tt, tt, tt, tt, tt, tt, tt, tt, tt, tt, ff, ff, ff, ff, ff, ff, ff, ff, ff, ff, ff, ff, ff, ff, ff, ff, ff, ff, ff, ff, ff, ff, ff, ff, ff, ff, ff, ff, ff, ff, ff, ff, ff, ff, ff, ff, ff, ff, ff, ff, ff, ff, ff] rfl rfl (any_of HT_.out (by kernel_rfl)) (fun _ _ _ h => h) (Or.inl ⟨by rfl, ?_⟩) ?_ ?_
 rotate_left
 ·intro w'
  go_simp
  with_reducible rfl
 rotate_left
 ·exact aP
 refine pure_ (i := 32) (N := some 98) (v := ?_) (a' := ?_) #[tt, tt, tt, tt, tt, tt, tt, tt, tt, tt, tt, tt, tt, tt, tt, tt, tt, tt, tt, tt, tt, tt, tt, tt, tt, tt, tt, tt, tt, tt, tt, tt, tt, ff, ff, ff, ff, ff, ff, ff, ff, ff, ff, ff, ff, ff, ff, ff, ff, ff, ff, ff, ff, ff, ff, ff, ff, ff, ff, ff, ff, ff, ff, ff, ff, ff, ff, ff, ff, ff, ff, ff, ff, ff, ff] rfl rfl (any_of HT_.out (by kernel_rfl)) (fun _ _ _ h => h) (Or.inl ⟨by rfl, ?_⟩) ?_ ?_
 rotate_left
 ·intro w'
  go_simp
  with_reducible rfl
 rotate_left
 ·exact aP
 refine pure_ (i := 33) (N := some 99) (v := ?_) (a' := ?_) #[tt, tt, tt, tt, tt, tt, tt, tt, tt, tt, tt, tt, tt, tt, tt, tt, tt, tt, tt, tt, tt, tt, tt, tt, tt, tt, tt, tt, tt, tt, tt, tt, tt, tt, ff, ff, ff, ff, ff, ff, ff, ff, ff, ff, ff, ff, ff, ff, ff, ff, ff, ff, ff, ff, ff, ff, ff, ff, ff, ff, ff, ff, ff, ff, ff, ff, ff, ff, ff, ff, ff, ff, ff, ff, ff] rfl rfl (any_of HT_.out (by kernel_rfl)) (fun _ _ _ h => h) (Or.inl ⟨by rfl, ?_⟩) ?_ ?_
 rotate_left
 ·intro w'
  go_simp
  with_reducible rfl
 rotate_left
 ·exact aP
 refine pure_ (i := 34) (N := some 100) (v := ?_) (a' := ?_) #[tt, tt, tt, tt, tt, tt, tt, tt, tt, tt, tt, tt, tt, tt, tt, tt, tt, tt, tt, tt, tt, tt, tt, tt, tt, tt, tt, tt, tt, tt, tt, tt, tt, tt, tt, ff, ff, ff, ff, ff, ff, ff, ff, ff, ff, ff, ff, ff, ff, ff, ff, ff, ff, ff, ff, ff, ff, ff, ff, ff, ff, ff, ff, ff, ff, ff, ff, ff, ff, ff, ff, ff, ff, ff, ff] rfl rfl (any_of HT_.out (by kernel_rfl)) (fun _ _ _ h => h) (Or.inl ⟨by rfl, ?_⟩) ?_ ?_
 rotate_left
 ·intro w'
  go_simp
  with_reducible rfl
 rotate_left
 ·exact aP
 refine pure_ (i := 35) (N := some 101) (v := ?_) (a' := ?_) #[tt, tt, tt, tt, tt, tt, tt, tt, tt, tt, tt, tt, tt, tt, tt, tt, tt, tt, tt, tt, tt, tt, tt, tt, tt, tt, tt, tt, tt, tt, tt, tt, tt, tt, tt, tt, ff, ff, ff, ff, ff, ff, ff, ff, ff, ff, ff, ff, ff, ff, ff, ff, ff, ff, ff, ff, ff, ff, ff, ff, ff, ff, ff, ff, ff, ff, ff, ff, ff, ff, ff, ff, ff, ff, ff] rfl rfl (any_of HT_.out (by kernel_rfl)) (fun _ _ _ h => h) (Or.inl ⟨by rfl, ?_⟩) ?_ ?_
 rotate_left
 ·intro w'
  go_simp
  with_reducible rfl
 rotate_left
 ·exact aP
 refine pure_ (i := 36) (N := some 102) (v := ?_) (a' := ?_) #[tt, tt, tt, tt, tt, tt, tt, tt, tt, tt, tt, tt, tt, tt, tt, tt, tt, tt, tt, tt, tt, tt, tt, tt, tt, tt, tt, tt, tt, tt, tt, tt, tt, tt, tt, tt, tt, ff, ff, ff, ff, ff, ff, ff, ff, ff, ff, ff, ff, ff, ff, ff, ff, ff, ff, ff, ff, ff, ff, ff, ff, ff, ff, ff, ff, ff, ff, ff, ff, ff, ff, ff, ff, ff, ff] rfl rfl (any_of HT_.out (by kernel_rfl)) (fun _ _ _ h => h) (Or.inl ⟨by rfl, ?_⟩) ?_ ?_
 rotate_left
 ·intro w'
  go_simp
  with_reducible rfl
 rotate_left
 ·exact aP
 refine pure_ (i := 37) (N := some 103) (v := ?_) (a' := ?_) #[tt, tt, tt, tt, tt, tt, tt, tt, tt, tt, tt, tt, tt, tt, tt, tt, tt, tt, tt, tt, tt, tt, tt, tt, tt, tt, tt, tt, tt, tt, tt, tt, tt, tt, tt, tt, tt, tt, ff, ff, ff, ff, ff, ff, ff, ff, ff, ff, ff, ff, ff, ff, ff, ff, ff, ff, ff, ff, ff, ff, ff, ff, ff, ff, ff, ff, ff, ff, ff, ff, ff, ff, ff, ff, ff] rfl rfl (any_of HT_.out (by kernel_rfl)) (fun _ _ _ h => h) (Or.inl ⟨by rfl, ?_⟩) ?_ ?_
 rotate_left
 ·intro w'
  go_simp
  with_reducible rfl
 rotate_left
 ·exact aP
 refine pure_ (i := 38) (N := some 104) (v := ?_) (a' := ?_) #[tt, tt, tt, tt, tt, tt, tt, tt, tt, tt, tt, tt, tt, tt, tt, tt, tt, tt, tt, tt, tt, tt, tt, tt, tt, tt, tt, tt, tt, tt, tt, tt, tt, tt, tt, tt, tt, tt, tt, ff, ff, ff, ff, ff, ff, ff, ff, ff, ff, ff, ff, ff, ff, ff, ff, ff, ff, ff, ff, ff, ff, ff, ff, ff, ff, ff, ff, ff, ff, ff, ff, ff, ff, ff, ff] rfl rfl (any_of HT_.out (by kernel_rfl)) (fun _ _ _ h => h) (Or.inl ⟨by rfl, ?_⟩) ?_ ?_
 rotate_left
 ·intro w'
  go_simp
  with_reducible rfl
 rotate_left
 ·exact aP
 refine pure_ (i := 39) (N := some 105) (v := ?_) (a' := ?_) #[tt, tt, tt, tt, tt, tt, tt, tt, tt, tt, tt, tt, tt, tt, tt, tt, tt, tt, tt, tt, tt, tt, tt, tt, tt, tt, tt, tt, tt, tt, tt, tt, tt, tt, tt, tt, tt, tt, tt, tt, ff, ff, ff, ff, ff, ff, ff, ff, ff, ff, ff, ff, ff, ff, ff, ff, ff, ff, ff, ff, ff, ff, ff, ff, ff, ff, ff, ff, ff, ff, ff, ff, ff, ff, ff] rfl rfl (any_of HT_.out (by kernel_rfl)) (fun _ _ _ h => h) (Or.inl ⟨by rfl, ?_⟩) ?_ ?_
 rotate_left
 ·intro w'
  go_simp
  with_reducible rfl
 rotate_left
 ·exact aP
 refine take_ (i := 40) (N := some 106) (v := ?_) (a' := ?_) #[tt, tt, tt, tt, tt, tt, tt, tt, tt, tt, tt, tt, tt, tt, tt, tt, tt, tt, tt, tt, tt, tt, tt, tt, tt, tt, tt, tt, tt, tt, tt, tt, tt, tt, tt, tt, tt, tt, tt, tt, tt, ff, ff, ff, ff, ff, ff, ff, ff, ff, ff, ff, ff, ff, ff, ff, ff, ff, ff, ff, ff, ff, ff, ff, ff, ff, ff, ff, ff, ff, ff, ff, ff, ff, ff] rfl rfl (take_ofW HT_.out HW_.out (by kernel_rfl)) (fun _ _ _ h => h) (Or.inl ⟨by rfl, ?_⟩) hHeld ?_ ?_
 rotate_left
 ·rintro w' ⟨s0, s1, s2, s3, s4, s5, s6, s7, s8, s9⟩
  go_simp
  with_reducible rfl
 rotate_left
 ·exact aP
 refine take_ (i := 41) (N := some 107) (v := ?_) (a' := ?_) #[tt, tt, tt, tt, tt, tt, tt, tt, tt, tt, tt, tt, tt, tt, tt, tt, tt, tt, tt, tt, tt, tt, tt, tt, tt, tt, tt, tt, tt, tt, tt, tt, tt, tt, tt, tt, tt, tt, tt, tt, tt, tt, ff, ff, ff, ff, ff, ff, ff, ff, ff, ff, ff, ff, ff, ff, ff, ff, ff, ff, ff, ff, ff, ff, ff, ff, ff, ff, ff, ff, ff, ff, ff, ff, ff] rfl rfl (take_ofW HT_.out HW_.out (by kernel_rfl)) (fun _ _ _ h => h) (Or.inl ⟨by rfl, ?_⟩) hHeld ?_ ?_
 rotate_left
 ·rintro w' ⟨s0, s1, s2, s3, s4, s5, s6, s7, s8, s9⟩
  go_simp
  with_reducible rfl
 rotate_left
 ·exact aP
 refine pure_ (i := 42) (N := some 108) (v := ?_) (a' := ?_) #[tt, tt, tt, tt, tt, tt, tt, tt, tt, tt, tt, tt, tt, tt, tt, tt, tt, tt, tt, tt, tt, tt, tt, tt, tt, tt, tt, tt, tt, tt, tt, tt, tt, tt, tt, tt, tt, tt, tt, tt, tt, tt, tt, ff, ff, ff, ff, ff, ff, ff, ff, ff, ff, ff, ff, ff, ff, ff, ff, ff, ff, ff, ff, ff, ff, ff, ff, ff, ff, ff, ff, ff, ff, ff, ff] rfl rfl (any_of HT_.out (by kernel_rfl)) (fun _ _ _ h => h) (Or.inl ⟨by rfl, ?_⟩) ?_ ?_
 rotate_left
 ·intro w'
  go_simp
  with_reducible rfl
 rotate_left
 ·exact aP
 refine pure_ (i := 43) (N := some 109) (v := ?_) (a' := ?_) #[tt, tt, tt, tt, tt, tt, tt, tt, tt, tt, tt, tt, tt, tt, tt, tt, tt, tt, tt, tt, tt, tt, tt, tt, tt, tt, tt, tt, tt, tt, tt, tt, tt, tt, tt, tt, tt, tt, tt, tt, tt, tt, tt, tt, ff, ff, ff, ff, ff, ff, ff, ff, ff, ff, ff, ff, ff, ff, ff, ff, ff, ff, ff, ff, ff, ff, ff, ff, ff, ff, ff, ff, ff, ff, ff] rfl rfl (any_of HT_.out (by kernel_rfl)) (fun _ _ _ h => h) (Or.inl ⟨by rfl, ?_⟩) ?_ ?_
 rotate_left
 ·intro w'
  go_simp
  with_reducible rfl
 rotate_left
 ·exact aP
 refine pure_ (i := 44) (N := some 110) (v := ?_) (a' := ?_) #[tt, tt, tt, tt, tt, tt, tt, tt, tt, tt, tt, tt, tt, tt, tt, tt, tt, tt, tt, tt, tt, tt, tt, tt, tt, tt, tt, tt, tt, tt, tt, tt, tt, tt, tt, tt, tt, tt, tt, tt, tt, tt, tt, tt, tt, ff, ff, ff, ff, ff, ff, ff, ff, ff, ff, ff, ff, ff, ff, ff, ff, ff, ff, ff, ff, ff, ff, ff, ff, ff, ff, ff, ff, ff, ff] rfl rfl (any_of HT_.out (by kernel_rfl)) (fun _ _ _ h => h) (Or.inl ⟨by rfl, ?_⟩) ?_ ?_
 rotate_left
 ·intro w'
  go_simp
  with_reducible rfl
 rotate_left
 ·exact aP
 refine pure_ (i := 45) (N := some 111) (v := ?_) (a' := ?_) #[tt, tt, tt, tt, tt, tt, tt, tt, tt, tt, tt, tt, tt, tt, tt, tt, tt, tt, tt, tt, tt, tt, tt, tt, tt, tt, tt, tt, tt, tt, tt, tt, tt, tt, tt, tt, tt, tt, tt, tt, tt, tt, tt, tt, tt, tt, ff, ff, ff, ff, ff, ff, ff, ff, ff, ff, ff, ff, ff, ff, ff, ff, ff, ff, ff, ff, ff, ff, ff, ff, ff, ff, ff, ff, ff] rfl rfl (any_of HT_.out (by kernel_rfl)) (fun _ _ _ h => h) (Or.inl ⟨by rfl, ?_⟩) ?_ ?_
 rotate_left
 ·intro w'
  go_simp
  with_reducible rfl
 rotate_left
 ·exact aP
 refine one_ (i := 46) (N := some 112) #[tt, tt, tt, tt, tt, tt, tt, tt, tt, tt, tt, tt, tt, tt, tt, tt, tt, tt, tt, tt, tt, tt, tt, tt, tt, tt, tt, tt, tt, tt, tt, tt, tt, tt, tt, tt, tt, tt, tt, tt, tt, tt, tt, tt, tt, tt, tt, ff, ff, ff, ff, ff, ff, ff, ff, ff, ff, ff, ff, ff, ff, ff, ff, ff, ff, ff, ff, ff, ff, ff, ff, ff, ff, ff, ff] rfl rfl (one_of HT_.out (by kernel_rfl)) (by decide) (fun K hK => ?_)
 refine goes_ Try.func17 (by kernel_rfl) rfl #[.int .u8 0, .int .i64 112] (by rfl) rfl rfl aO ?_
 with_reducible refine (withyref01_Repeat.calls k 0 112 t196 _ A29.out).mono ?_
 rintro e w68 ⟨rfl, hb⟩
 refine ⟨_, rfl, ?_⟩
 replace BK157 := bb BK157 hb
 replace BK177 := bb BK177 hb
 replace BK185 := bb BK185 hb
 replace BK194 := bb BK194 hb
 replace HB := as_ (below_step bA hb)
 (try clear hb)
 (try clear hb2)
 (try clear hk)
 (try clear hi)
 refine hK.out _ _ ⟨(blk_cell BK177.out 0).trans rfl, (blk_cell BK177.out 1).trans rfl, (blk_cell BK177.out 2).trans rfl, (blk_cell BK177.out 3).trans rfl, (blk_cell BK177.out 4).trans rfl, (blk_cell BK157.out 0).trans rfl, (blk_cell BK157.out 1).trans rfl, (blk_cell BK157.out 2).trans rfl, (blk_cell BK157.out 3).trans rfl, (blk_cell BK157.out 4).trans rfl⟩ (fun hHeld => ?_)
 clear hK K
 refine norm_ (a' := ?_) ?_ ?_
 rotate_left
 ·show Act.put _ (some 112) _ = _
  simp only [Act.put, List.setIfInBounds_toArray, List.set_cons_zero, List.set_cons_succ, i64_w, i32_w]
  rfl
 refine pure_ (i := 47) (N := some 113) (v := ?_) (a' := ?_) #[tt, tt, tt, tt, tt, tt, tt, tt, tt, tt, tt, tt, tt, tt, tt, tt, tt, tt, tt, tt, tt, tt, tt, tt, tt, tt, tt, tt, tt, tt, tt, tt, tt, tt, tt, tt, tt, tt, tt, tt, tt, tt, tt, tt, tt, tt, tt, tt, ff, ff, ff, ff, ff, ff, ff, ff, ff, ff, ff, ff, ff, ff, ff, ff, ff, ff, ff, ff, ff, ff, ff, ff, ff, ff, ff] rfl rfl (any_of HT_.out (by kernel_rfl)) (fun _ _ _ h => h) (Or.inl ⟨by rfl, ?_⟩) ?_ ?_
 rotate_left
 ·intro w'
  go_simp
  with_reducible rfl
 rotate_left
 ·exact aP
 refine pure_ (i := 48) (N := some 114) (v := ?_) (a' := ?_) #[tt, tt, tt, tt, tt, tt, tt, tt, tt, tt, tt, tt, tt, tt, tt, tt, tt, tt, tt, tt, tt, tt, tt, tt, tt, tt, tt, tt, tt, tt, tt, tt, tt, tt, tt, tt, tt, tt, tt, tt, tt, tt, tt, tt, tt, tt, tt, tt, tt, ff, ff, ff, ff, ff, ff, ff, ff, ff, ff, ff, ff, ff, ff, ff, ff, ff, ff, ff, ff, ff, ff, ff, ff, ff, ff] rfl rfl (any_of HT_.out (by kernel_rfl)) (fun _ _ _ h => h) (Or.inl ⟨by rfl, ?_⟩) ?_ ?_
 rotate_left
 ·intro w'
  go_simp
  with_reducible rfl
 rotate_left
 ·exact aP
 refine pure_ (i := 49) (N := some 115) (v := ?_) (a' := ?_) #[tt, tt, tt, tt, tt, tt, tt, tt, tt, tt, tt, tt, tt, tt, tt, tt, tt, tt, tt, tt, tt, tt, tt, tt, tt, tt, tt, tt, tt, tt, tt, tt, tt, tt, tt, tt, tt, tt, tt, tt, tt, tt, tt, tt, tt, tt, tt, tt, tt, tt, ff, ff, ff, ff, ff, ff, ff, ff, ff, ff, ff, ff, ff, ff, ff, ff, ff, ff, ff, ff, ff, ff, ff, ff, ff] rfl rfl (any_of HT_.out (by kernel_rfl)) (fun _ _ _ h => h) (Or.inl ⟨by rfl, ?_⟩) ?_ ?_
 rotate_left
 ·intro w'
  go_simp
  with_reducible rfl
 rotate_left
 ·exact aP
 refine pure_ (i := 50) (N := some 116) (v := ?_) (a' := ?_) #[tt, tt, tt, tt, tt, tt, tt, tt, tt, tt, tt, tt, tt, tt, tt, tt, tt, tt, tt, tt, tt, tt, tt, tt, tt, tt, tt, tt, tt, tt, tt, tt, tt, tt, tt, tt, tt, tt, tt, tt, tt, tt, tt, tt, tt, tt, tt, tt, tt, tt, tt, ff, ff, ff, ff, ff, ff, ff, ff, ff, ff, ff, ff, ff, ff, ff, ff, ff, ff, ff, ff, ff, ff, ff, ff] rfl rfl (any_of HT_.out (by kernel_rfl)) (fun _ _ _ h => h) (Or.inl ⟨by rfl, ?_⟩) ?_ ?_
 rotate_left
 ·intro w'
  go_simp
  with_reducible rfl
 rotate_left
 ·exact aP
 refine pure_ (i := 51) (N := some 117) (v := ?_) (a' := ?_) #[tt, tt, tt, tt, tt, tt, tt, tt, tt, tt, tt, tt, tt, tt, tt, tt, tt, tt, tt, tt, tt, tt, tt, tt, tt, tt, tt, tt, tt, tt, tt, tt, tt, tt, tt, tt, tt, tt, tt, tt, tt, tt, tt, tt, tt, tt, tt, tt, tt, tt, tt, tt, ff, ff, ff, ff, ff, ff, ff, ff, ff, ff, ff, ff, ff, ff, ff, ff, ff, ff, ff, ff, ff, ff, ff] rfl rfl (any_of HT_.out (by kernel_rfl)) (fun _ _ _ h => h) (Or.inl ⟨by rfl, ?_⟩) ?_ ?_
 rotate_left
 ·intro w'
  go_simp
  with_reducible rfl
 rotate_left
 ·exact aP
 refine pure_ (i := 52) (N := some 118) (v := ?_) (a' := ?_) #[tt, tt, tt, tt, tt, tt, tt, tt, tt, tt, tt, tt, tt, tt, tt, tt, tt, tt, tt, tt, tt, tt, tt, tt, tt, tt, tt, tt, tt, tt, tt, tt, tt, tt, tt, tt, tt, tt, tt, tt, tt, tt, tt, tt, tt, tt, tt, tt, tt, tt, tt, tt, tt, ff, ff, ff, ff, ff, ff, ff, ff, ff, ff, ff, ff, ff, ff, ff, ff, ff, ff, ff, ff, ff, ff] rfl rfl (any_of HT_.out (by kernel_rfl)) (fun _ _ _ h => h) (Or.inl ⟨by rfl, ?_⟩) ?_ ?_
 rotate_left
 ·intro w'
  go_simp
  with_reducible rfl
 rotate_left
 ·exact aP
 refine pure_ (i := 53) (N := some 119) (v := ?_) (a' := ?_) #[tt, tt, tt, tt, tt, tt, tt, tt, tt, tt, tt, tt, tt, tt, tt, tt, tt, tt, tt, tt, tt, tt, tt, tt, tt, tt, tt, tt, tt, tt, tt, tt, tt, tt, tt, tt, tt, tt, tt, tt, tt, tt, tt, tt, tt, tt, tt, tt, tt, tt, tt, tt, tt, tt, ff, ff, ff, ff, ff, ff, ff, ff, ff, ff, ff, ff, ff, ff, ff, ff, ff, ff, ff, ff, ff] rfl rfl (any_of HT_.out (by kernel_rfl)) (fun _ _ _ h => h) (Or.inl ⟨by rfl, ?_⟩) ?_ ?_
 rotate_left
 ·intro w'
  go_simp
  with_reducible rfl
 rotate_left
 ·exact aP
 refine pure_ (i := 54) (N := some 120) (v := ?_) (a' := ?_) #[tt, tt, tt, tt, tt, tt, tt, tt, tt, tt, tt, tt, tt, tt, tt, tt, tt, tt, tt, tt, tt, tt, tt, tt, tt, tt, tt, tt, tt, tt, tt, tt, tt, tt, tt, tt, tt, tt, tt, tt, tt, tt, tt, tt, tt, tt, tt, tt, tt, tt, tt, tt, tt, tt, tt, ff, ff, ff, ff, ff, ff, ff, ff, ff, ff, ff, ff, ff, ff, ff, ff, ff, ff, ff, ff] rfl rfl (any_of HT_.out (by kernel_rfl)) (fun _ _ _ h => h) (Or.inl ⟨by rfl, ?_⟩) ?_ ?_
 rotate_left
 ·intro w'
  go_simp
  with_reducible rfl
 rotate_left
 ·exact aP
 refine pure_ (i := 55) (N := some 121) (v := ?_) (a' := ?_) #[tt, tt, tt, tt, tt, tt, tt, tt, tt, tt, tt, tt, tt, tt, tt, tt, tt, tt, tt, tt, tt, tt, tt, tt, tt, tt, tt, tt, tt, tt, tt, tt, tt, tt, tt, tt, tt, tt, tt, tt, tt, tt, tt, tt, tt, tt, tt, tt, tt, tt, tt, tt, tt, tt, tt, tt, ff, ff, ff, ff, ff, ff, ff, ff, ff, ff, ff, ff, ff, ff, ff, ff, ff, ff, ff] rfl rfl (any_of HT_.out (by kernel_rfl)) (fun _ _ _ h => h) (Or.inl ⟨by rfl, ?_⟩) ?_ ?_
 rotate_left
 ·intro w'
  go_simp
  with_reducible rfl
 rotate_left
 ·exact aP
 refine pure_ (i := 56) (N := some 122) (v := ?_) (a' := ?_) #[tt, tt, tt, tt, tt, tt, tt, tt, tt, tt, tt, tt, tt, tt, tt, tt, tt, tt, tt, tt, tt, tt, tt, tt, tt, tt, tt, tt, tt, tt, tt, tt, tt, tt, tt, tt, tt, tt, tt, tt, tt, tt, tt, tt, tt, tt, tt, tt, tt, tt, tt, tt, tt, tt, tt, tt, tt, ff, ff, ff, ff, ff, ff, ff, ff, ff, ff, ff, ff, ff, ff, ff, ff, ff, ff] rfl rfl (any_of HT_.out (by kernel_rfl)) (fun _ _ _ h => h) (Or.inl ⟨by rfl, ?_⟩) ?_ ?_
 rotate_left
 ·intro w'
  go_simp
  with_reducible rfl
 rotate_left
 ·exact aP
 refine pure_ (i := 57) (N := some 123) (v := ?_) (a' := ?_) #[tt, tt, tt, tt, tt, tt, tt, tt, tt, tt, tt, tt, tt, tt, tt, tt, tt, tt, tt, tt, tt, tt, tt, tt, tt, tt, tt, tt, tt, tt, tt, tt, tt, tt, tt, tt, tt, tt, tt, tt, tt, tt, tt, tt, tt, tt, tt, tt, tt, tt, tt, tt, tt, tt, tt, tt, tt, tt, ff, ff, ff, ff, ff, ff, ff, ff, ff, ff, ff, ff, ff, ff, ff, ff, ff] rfl rfl (any_of HT_.out (by kernel_rfl)) (fun _ _ _ h => h) (Or.inl ⟨by rfl, ?_⟩) ?_ ?_
 rotate_left
 ·intro w'
  go_simp
  with_reducible rfl
 rotate_left
 ·exact aP
 refine pure_ (i := 58) (N := some 124) (v := ?_) (a' := ?_) #[tt, tt, tt, tt, tt, tt, tt, tt, tt, tt, tt, tt, tt, tt, tt, tt, tt, tt, tt, tt, tt, tt, tt, tt, tt, tt, tt, tt, tt, tt, tt, tt, tt, tt, tt, tt, tt, tt, tt, tt, tt, tt, tt, tt, tt, tt, tt, tt, tt, tt, tt, tt, tt, tt, tt, tt, tt, tt, tt, ff, ff, ff, ff, ff, ff, ff, ff, ff, ff, ff, ff, ff, ff, ff, ff] rfl rfl (any_of HT_.out (by kernel_rfl)) (fun _ _ _ h => h) (Or.inl ⟨by rfl, ?_⟩) ?_ ?_
 rotate_left
 ·intro w'
  go_simp
  with_reducible rfl
 rotate_left
 ·exact aP
 refine pure_ (i := 59) (N := some 125) (v := ?_) (a' := ?_) #[tt, tt, tt, tt, tt, tt, tt, tt, tt, tt, tt, tt, tt, tt, tt, tt, tt, tt, tt, tt, tt, tt, tt, tt, tt, tt, tt, tt, tt, tt, tt, tt, tt, tt, tt, tt, tt, tt, tt, tt, tt, tt, tt, tt, tt, tt, tt, tt, tt, tt, tt, tt, tt, tt, tt, tt, tt, tt, tt, tt, ff, ff, ff, ff, ff, ff, ff, ff, ff, ff, ff, ff, ff, ff, ff] rfl rfl (any_of HT_.out (by kernel_rfl)) (fun _ _ _ h => h) (Or.inl ⟨by rfl, ?_⟩) ?_ ?_
 rotate_left
 ·intro w'
  go_simp
  with_reducible rfl
 rotate_left
 ·exact aP
 refine pure_ (i := 60) (N := some 126) (v := ?_) (a' := ?_) #[tt, tt, tt, tt, tt, tt, tt, tt, tt, tt, tt, tt, tt, tt, tt, tt, tt, tt, tt, tt, tt, tt, tt, tt, tt, tt, tt, tt, tt, tt, tt, tt, tt, tt, tt, tt, tt, tt, tt, tt, tt, tt, tt, tt, tt, tt, tt, tt, tt, tt, tt, tt, tt, tt, tt, tt, tt, tt, tt, tt, tt, ff, ff, ff, ff, ff, ff, ff, ff, ff, ff, ff, ff, ff, ff] rfl rfl (any_of HT_.out (by kernel_rfl)) (fun _ _ _ h => h) (Or.inl ⟨by rfl, ?_⟩) ?_ ?_
 rotate_left
 ·intro w'
  go_simp
  with_reducible rfl
 rotate_left
 ·exact aP
 refine pure_ (i := 61) (N := some 127) (v := ?_) (a' := ?_) #[tt, tt, tt, tt, tt, tt, tt, tt, tt, tt, tt, tt, tt, tt, tt, tt, tt, tt, tt, tt, tt, tt, tt, tt, tt, tt, tt, tt, tt, tt, tt, tt, tt, tt, tt, tt, tt, tt, tt, tt, tt, tt, tt, tt, tt, tt, tt, tt, tt, tt, tt, tt, tt, tt, tt, tt, tt, tt, tt, tt, tt, tt, ff, ff, ff, ff, ff, ff, ff, ff, ff, ff, ff, ff, ff] rfl rfl (any_of HT_.out (by kernel_rfl)) (fun _ _ _ h => h) (Or.inl ⟨by rfl, ?_⟩) ?_ ?_
 rotate_left
 ·intro w'
  go_simp
  with_reducible rfl
 rotate_left
 ·exact aP
 refine take_ (i := 62) (N := some 128) (v := ?_) (a' := ?_) #[tt, tt, tt, tt, tt, tt, tt, tt, tt, tt, tt, tt, tt, tt, tt, tt, tt, tt, tt, tt, tt, tt, tt, tt, tt, tt, tt, tt, tt, tt, tt, tt, tt, tt, tt, tt, tt, tt, tt, tt, tt, tt, tt, tt, tt, tt, tt, tt, tt, tt, tt, tt, tt, tt, tt, tt, tt, tt, tt, tt, tt, tt, tt, ff, ff, ff, ff, ff, ff, ff, ff, ff, ff, ff, ff] rfl rfl (take_ofW HT_.out HW_.out (by kernel_rfl)) (fun _ _ _ h => h) (Or.inl ⟨by rfl, ?_⟩) hHeld ?_ ?_
 rotate_left
 ·rintro w' ⟨s0, s1, s2, s3, s4, s5, s6, s7, s8, s9⟩
  go_simp
  with_reducible rfl
 rotate_left
 ·exact aP
 refine one_ (i := 63) (N := some 129) #[tt, tt, tt, tt, tt, tt, tt, tt, tt, tt, tt, tt, tt, tt, tt, tt, tt, tt, tt, tt, tt, tt, tt, tt, tt, tt, tt, tt, tt, tt, tt, tt, tt, tt, tt, tt, tt, tt, tt, tt, tt, tt, tt, tt, tt, tt, tt, tt, tt, tt, tt, tt, tt, tt, tt, tt, tt, tt, tt, tt, tt, tt, tt, tt, ff, ff, ff, ff, ff, ff, ff, ff, ff, ff, ff] rfl rfl (one_of HT_.out (by kernel_rfl)) (by decide) (fun K hK => ?_)
 refine goes_ Try.func14 (by kernel_rfl) rfl #[.agg #[.int .i64 2, .int .i64 0, .int .i64 0, .int .i64 0, .int .i64 3]] (by rfl) rfl rfl aO ?_
 with_reducible refine (head_Right.calls k 2 0 0 0 3 true _ A34.out).mono ?_
 rintro e w69 ⟨rfl, hb⟩
 refine ⟨_, rfl, ?_⟩
 replace BK157 := bb BK157 hb
 replace BK177 := bb BK177 hb
 replace BK185 := bb BK185 hb
 replace BK194 := bb BK194 hb
 replace HB := as_ (below_step bA hb)
 (try clear hb)
 (try clear hb2)
 (try clear hk)
 (try clear hi)
 refine hK.out _ _ ⟨(blk_cell BK177.out 0).trans rfl, (blk_cell BK177.out 1).trans rfl, (blk_cell BK177.out 2).trans rfl, (blk_cell BK177.out 3).trans rfl, (blk_cell BK177.out 4).trans rfl, (blk_cell BK157.out 0).trans rfl, (blk_cell BK157.out 1).trans rfl, (blk_cell BK157.out 2).trans rfl, (blk_cell BK157.out 3).trans rfl, (blk_cell BK157.out 4).trans rfl⟩ (fun hHeld => ?_)
 clear hK K
 refine norm_ (a' := ?_) ?_ ?_
 rotate_left
 ·show Act.put _ (some 129) _ = _
  simp only [Act.put, List.setIfInBounds_toArray, List.set_cons_zero, List.set_cons_succ, i64_w, i32_w]
  rfl
 refine pure_ (i := 64) (N := some 130) (v := ?_) (a' := ?_) #[tt, tt, tt, tt, tt, tt, tt, tt, tt, tt, tt, tt, tt, tt, tt, tt, tt, tt, tt, tt, tt, tt, tt, tt, tt, tt, tt, tt, tt, tt, tt, tt, tt, tt, tt, tt, tt, tt, tt, tt, tt, tt, tt, tt, tt, tt, tt, tt, tt, tt, tt, tt, tt, tt, tt, tt, tt, tt, tt, tt, tt, tt, tt, tt, tt, ff, ff, ff, ff, ff, ff, ff, ff, ff, ff] rfl rfl (any_of HT_.out (by kernel_rfl)) (fun _ _ _ h => h) (Or.inl ⟨by rfl, ?_⟩) ?_ ?_
 rotate_left
 ·intro w'
  go_simp
  with_reducible rfl
 rotate_left
 ·exact aP
 refine pure_ (i := 65) (N := some 131) (v := ?_) (a' := ?_) #[tt, tt, tt, tt, tt, tt, tt, tt, tt, tt, tt, tt, tt, tt, tt, tt, tt, tt, tt, tt, tt, tt, tt, tt, tt, tt, tt, tt, tt, tt, tt, tt, tt, tt, tt, tt, tt, tt, tt, tt, tt, tt, tt, tt, tt, tt, tt, tt, tt, tt, tt, tt, tt, tt, tt, tt, tt, tt, tt, tt, tt, tt, tt, tt, tt, tt, ff, ff, ff, ff, ff, ff, ff, ff, ff] rfl rfl (any_of HT_.out (by kernel_rfl)) (fun _ _ _ h => h) (Or.inl ⟨by rfl, ?_⟩) ?_ ?_
 rotate_left
 ·intro w'
  go_simp
  with_reducible rfl
 rotate_left
 ·exact aP
 refine pure_ (i := 66) (N := some 132) (v := ?_) (a' := ?_) #[tt, tt, tt, tt, tt, tt, tt, tt, tt, tt, tt, tt, tt, tt, tt, tt, tt, tt, tt, tt, tt, tt, tt, tt, tt, tt, tt, tt, tt, tt, tt, tt, tt, tt, tt, tt, tt, tt, tt, tt, tt, tt, tt, tt, tt, tt, tt, tt, tt, tt, tt, tt, tt, tt, tt, tt, tt, tt, tt, tt, tt, tt, tt, tt, tt, tt, tt, ff, ff, ff, ff, ff, ff, ff, ff] rfl rfl (any_of HT_.out (by kernel_rfl)) (fun _ _ _ h => h) (Or.inl ⟨by rfl, ?_⟩) ?_ ?_
 rotate_left
 ·intro w'
  go_simp
  with_reducible rfl
 rotate_left
 ·exact aP
 refine one_ (i := 67) (N := some 133) #[tt, tt, tt, tt, tt, tt, tt, tt, tt, tt, tt, tt, tt, tt, tt, tt, tt, tt, tt, tt, tt, tt, tt, tt, tt, tt, tt, tt, tt, tt, tt, tt, tt, tt, tt, tt, tt, tt, tt, tt, tt, tt, tt, tt, tt, tt, tt, tt, tt, tt, tt, tt, tt, tt, tt, tt, tt, tt, tt, tt, tt, tt, tt, tt, tt, tt, tt, tt, ff, ff, ff, ff, ff, ff, ff] rfl rfl (one_of HT_.out (by kernel_rfl)) (by decide) (fun K hK => ?_)
 refine goes_ Try.func14 (by kernel_rfl) rfl #[.agg #[.int .i64 5, .int .i64 0, .int .i64 0, .int .i64 0, .int .i64 0]] (by rfl) rfl rfl aO ?_
 with_reducible refine (head_Right.calls k 5 0 0 0 0 false _ A36.out).mono ?_
 rintro e w70 ⟨rfl, hb⟩
 refine ⟨_, rfl, ?_⟩
 replace BK157 := bb BK157 hb
 replace BK177 := bb BK177 hb
 replace BK185 := bb BK185 hb
 replace BK194 := bb BK194 hb
 replace HB := as_ (below_step bA hb)
 (try clear hb)
 (try clear hb2)
 (try clear hk)
 (try clear hi)
 refine hK.out _ _ ⟨(blk_cell BK177.out 0).trans rfl, (blk_cell BK177.out 1).trans rfl, (blk_cell BK177.out 2).trans rfl, (blk_cell BK177.out 3).trans rfl, (blk_cell BK177.out 4).trans rfl, (blk_cell BK157.out 0).trans rfl, (blk_cell BK157.out 1).trans rfl, (blk_cell BK157.out 2).trans rfl, (blk_cell BK157.out 3).trans rfl, (blk_cell BK157.out 4).trans rfl⟩ (fun hHeld => ?_)
 clear hK K
 refine norm_ (a' := ?_) ?_ ?_
 rotate_left
 ·show Act.put _ (some 133) _ = _
  simp only [Act.put, List.setIfInBounds_toArray, List.set_cons_zero, List.set_cons_succ, i64_w, i32_w]
  rfl
 refine pure_ (i := 68) (N := some 134) (v := ?_) (a' := ?_) #[tt, tt, tt, tt, tt, tt, tt, tt, tt, tt, tt, tt, tt, tt, tt, tt, tt, tt, tt, tt, tt, tt, tt, tt, tt, tt, tt, tt, tt, tt, tt, tt, tt, tt, tt, tt, tt, tt, tt, tt, tt, tt, tt, tt, tt, tt, tt, tt, tt, tt, tt, tt, tt, tt, tt, tt, tt, tt, tt, tt, tt, tt, tt, tt, tt, tt, tt, tt, tt, ff, ff, ff, ff, ff, ff] rfl rfl (any_of HT_.out (by kernel_rfl)) (fun _ _ _ h => h) (Or.inl ⟨by rfl, ?_⟩) ?_ ?_
 rotate_left
 ·intro w'
  go_simp
  with_reducible rfl
 rotate_left
 ·exact aP
 refine pure_ (i := 69) (N := some 135) (v := ?_) (a' := ?_) #[tt, tt, tt, tt, tt, tt, tt, tt, tt, tt, tt, tt, tt, tt, tt, tt, tt, tt, tt, tt, tt, tt, tt, tt, tt, tt, tt, tt, tt, tt, tt, tt, tt, tt, tt, tt, tt, tt, tt, tt, tt, tt, tt, tt, tt, tt, tt, tt, tt, tt, tt, tt, tt, tt, tt, tt, tt, tt, tt, tt, tt, tt, tt, tt, tt, tt, tt, tt, tt, tt, ff, ff, ff, ff, ff] rfl rfl (any_of HT_.out (by kernel_rfl)) (fun _ _ _ h => h) (Or.inl ⟨by rfl, ?_⟩) ?_ ?_
 rotate_left
 ·intro w'
  go_simp
  with_reducible rfl
 rotate_left
 ·exact aP
 refine pure_ (i := 70) (N := some 136) (v := ?_) (a' := ?_) #[tt, tt, tt, tt, tt, tt, tt, tt, tt, tt, tt, tt, tt, tt, tt, tt, tt, tt, tt, tt, tt, tt, tt, tt, tt, tt, tt, tt, tt, tt, tt, tt, tt, tt, tt, tt, tt, tt, tt, tt, tt, tt, tt, tt, tt, tt, tt, tt, tt, tt, tt, tt, tt, tt, tt, tt, tt, tt, tt, tt, tt, tt, tt, tt, tt, tt, tt, tt, tt, tt, tt, ff, ff, ff, ff] rfl rfl (any_of HT_.out (by kernel_rfl)) (fun _ _ _ h => h) (Or.inl ⟨by rfl, ?_⟩) ?_ ?_
 rotate_left
 ·intro w'
  go_simp
  with_reducible rfl
 rotate_left
 ·exact aP
 refine pure_ (i := 71) (N := some 137) (v := ?_) (a' := ?_) #[tt, tt, tt, tt, tt, tt, tt, tt, tt, tt, tt, tt, tt, tt, tt, tt, tt, tt, tt, tt, tt, tt, tt, tt, tt, tt, tt, tt, tt, tt, tt, tt, tt, tt, tt, tt, tt, tt, tt, tt, tt, tt, tt, tt, tt, tt, tt, tt, tt, tt, tt, tt, tt, tt, tt, tt, tt, tt, tt, tt, tt, tt, tt, tt, tt, tt, tt, tt, tt, tt, tt, tt, ff, ff, ff] rfl rfl (any_of HT_.out (by kernel_rfl)) (fun _ _ _ h => h) (Or.inl ⟨by rfl, ?_⟩) ?_ ?_
 rotate_left
 ·intro w'
  go_simp
  with_reducible rfl
 rotate_left
 ·exact aP
 refine pure_ (i := 72) (N := some 138) (v := ?_) (a' := ?_) #[tt, tt, tt, tt, tt, tt, tt, tt, tt, tt, tt, tt, tt, tt, tt, tt, tt, tt, tt, tt, tt, tt, tt, tt, tt, tt, tt, tt, tt, tt, tt, tt, tt, tt, tt, tt, tt, tt, tt, tt, tt, tt, tt, tt, tt, tt, tt, tt, tt, tt, tt, tt, tt, tt, tt, tt, tt, tt, tt, tt, tt, tt, tt, tt, tt, tt, tt, tt, tt, tt, tt, tt, tt, ff, ff] rfl rfl (any_of HT_.out (by kernel_rfl)) (fun _ _ _ h => h) (Or.inl ⟨by rfl, ?_⟩) ?_ ?_
 rotate_left
 ·intro w'
  go_simp
  with_reducible rfl
 rotate_left
 ·exact aP
 refine pure_ (i := 73) (N := some 139) (v := ?_) (a' := ?_) #[tt, tt, tt, tt, tt, tt, tt, tt, tt, tt, tt, tt, tt, tt, tt, tt, tt, tt, tt, tt, tt, tt, tt, tt, tt, tt, tt, tt, tt, tt, tt, tt, tt, tt, tt, tt, tt, tt, tt, tt, tt, tt, tt, tt, tt, tt, tt, tt, tt, tt, tt, tt, tt, tt, tt, tt, tt, tt, tt, tt, tt, tt, tt, tt, tt, tt, tt, tt, tt, tt, tt, tt, tt, tt, ff] rfl rfl (any_of HT_.out (by kernel_rfl)) (fun _ _ _ h => h) (Or.inl ⟨by rfl, ?_⟩) ?_ ?_
 rotate_left
 ·intro w'
  go_simp
  with_reducible rfl
 rotate_left
 ·exact aP
 refine pure_ (i := 74) (N := some 0) (v := ?_) (a' := ?_) #[tt, tt, tt, tt, tt, tt, tt, tt, tt, tt, tt, tt, tt, tt, tt, tt, tt, tt, tt, tt, tt, tt, tt, tt, tt, tt, tt, tt, tt, tt, tt, tt, tt, tt, tt, tt, tt, tt, tt, tt, tt, tt, tt, tt, tt, tt, tt, tt, tt, tt, tt, tt, tt, tt, tt, tt, tt, tt, tt, tt, tt, tt, tt, tt, tt, tt, tt, tt, tt, tt, tt, tt, tt, tt, tt] rfl rfl (any_of HT_.out (by kernel_rfl)) (fun _ _ _ h => h) (Or.inl ⟨by rfl, ?_⟩) ?_ ?_
 rotate_left
 ·intro w'
  go_simp
  with_reducible rfl
 rotate_left
 ·exact aP
 refine done_ (done_of HT_.out (by kernel_rfl)) ?_
 try go_wp2
 go_ret
 exact ⟨by first | rfl | (simp [errW_none, errW_some] <;> rfl) | (simp only [← hjs21]; first | rfl | (simp [errW_none, errW_some] <;> rfl)) | (simp [*, errW_none, errW_some] <;> rfl), by repeat (first | (with_reducible first | exact HB.out | apply below_alloc | apply pw_below_drewN | apply below_drew1 | refine below_set ?_ GE157.out | refine below_set ?_ GE177.out | refine below_set ?_ GE185.out | refine below_set ?_ GE194.out) | exact HB.out)⟩
end Go.Proofs.Ytnfnmjjdcaphjaa.P
