/- What is proved here: for functions of the Go text, a Lean function each, and that the call comes to just what it answers. Conditions: as each contract names them. Written by wip/tools/myprint.py, a driver of the print of the kit. -/
import Derived.Test.YtnkndnpnjbcaoaaP0
import Derived.Test.YtnkndnpnjbcaoaaP3
import Derived.Test.YtnkndnpnjbcaoaaP8
import Derived.Test.YtnkndnpnjbcaoaaP17
namespace Go.Proofs.Ytnkndnpnjbcaoaa.P
open Go.RowKit Go.Proofs.YtnkndnpnjbcaoaaW.PrintWords Go.Proofs.YtnkndnpnjbcaoaaW.PrintLast Go.Proofs.YtnkndnpnjbcaoaaW.PrintMore
attribute [local go_sem] max2_int min2_int max_two min_two max_three min_three max_four min_four Go.Proofs.YtnkndnpnjbcaoaaLaws.str_leq Go.Proofs.YtnkndnpnjbcaoaaLaws.str_gtr Go.Proofs.YtnkndnpnjbcaoaaLaws.str_geq Go.Proofs.YtnkndnpnjbcaoaaLaws.max2_str Go.Proofs.YtnkndnpnjbcaoaaLaws.min2_str   -- for this text's walks alone
set_option linter.unusedVariables false
set_option linter.unusedSimpArgs false

/-! ### withylaw13_MetaEach: function 8 -/
def withylaw13_MetaEach.l0 : Nat → List (S23) → Int → Int → Int → Int → Int → Int → Option (Bool)
 | 0, _, _, _, _, _, _, _ => none
 | k + 1, x7, x9, x408000, x408001, x408002, x408003, x408004 => if x9 < (x7.length : Int) then (if 0 ≤ x9 then ((meta_Encode.f k ((rd_T23 x7 x9).f0) ((rd_T23 x7 x9).f1) ((rd_T23 x7 x9).f2) ((rd_T23 x7 x9).f3) ((rd_T23 x7 x9).f4)).bind fun bt426 => (if bt426.2 = 3 then (if bt426.1.toList = ([] : List UInt8) then ((meta_May.f ((rd_T23 x7 x9).f0) ((rd_T23 x7 x9).f1) ((rd_T23 x7 x9).f2) ((rd_T23 x7 x9).f3) ((rd_T23 x7 x9).f4)).bind fun t429 => (if t429 = true then (none) else (withylaw13_MetaEach.l0 k x7 (wrap64 (x9 + 1)) x408000 x408001 x408002 x408003 x408004))) else (none)) else (none))) else (none)) else ((withyref06_Size.f x408000).bind fun t423 => (if t423 = true then ((withylaw13_fixed.f k).bind fun t424 => (some t424)) else (none)))
def withylaw13_MetaEach.f (k : Nat) (a0_0 : Int) (a0_1 : Int) (a0_2 : Int) (a0_3 : Int) (a0_4 : Int) (a1 : Int) : Option (Bool) := (meta_May.f a0_0 a0_1 a0_2 a0_3 a0_4).bind fun t408 => (if t408 = true then ((some (([(⟨a0_0, a0_1, a0_2, a0_3, a0_4⟩ : S23), (⟨a0_0, a0_1, a0_2, a0_3, a0_4⟩ : S23), (⟨a0_0, a0_1, a0_2, a0_3, a0_4⟩ : S23), (⟨a0_0, a0_1, a0_2, a0_3, a0_4⟩ : S23), (⟨a0_0, a0_1, a0_2, a0_3, a0_4⟩ : S23), (⟨a0_0, a0_1, a0_2, a0_3, a0_4⟩ : S23), (⟨a0_0, a0_1, a0_2, a0_3, a0_4⟩ : S23), (⟨a0_0, a0_1, a0_2, a0_3, a0_4⟩ : S23)] : List (S23)) : List (S23))).bind fun y412 => (if 0 < (y412.length : Int) then ((some (y412.set (0 : Int).toNat (⟨wrap64 ((wrap64 (a0_0 + 1)) + (Int.tmod (wrap64 (a1)) 9)), (rd_T23 y412 0).f1, (rd_T23 y412 0).f2, (rd_T23 y412 0).f3, (rd_T23 y412 0).f4⟩ : S23) : List (S23))).bind fun y415 => (if 1 < (y412.length : Int) then ((some (y415.set (1 : Int).toNat (⟨(rd_T23 y415 1).f0, wrap64 (1 - (Int.tmod (wrap64 (a1)) 9)), (rd_T23 y415 1).f2, (rd_T23 y415 1).f3, (rd_T23 y415 1).f4⟩ : S23) : List (S23))).bind fun y416 => (if 2 < (y412.length : Int) then ((some (y416.set (2 : Int).toNat (⟨(rd_T23 y416 2).f0, wrap64 (4097 + (Int.tmod (wrap64 (a1)) 9)), (rd_T23 y416 2).f2, (rd_T23 y416 2).f3, (rd_T23 y416 2).f4⟩ : S23) : List (S23))).bind fun y417 => (if 3 < (y412.length : Int) then ((some (y417.set (3 : Int).toNat (⟨(rd_T23 y417 3).f0, (rd_T23 y417 3).f1, wrap64 (-(Int.tmod (wrap64 (a1)) 9)), (rd_T23 y417 3).f3, (rd_T23 y417 3).f4⟩ : S23) : List (S23))).bind fun y418 => (if 4 < (y412.length : Int) then ((some (y418.set (4 : Int).toNat (⟨(rd_T23 y418 4).f0, (rd_T23 y418 4).f1, wrap64 (a0_1 + (Int.tmod (wrap64 (a1)) 9)), (rd_T23 y418 4).f3, (rd_T23 y418 4).f4⟩ : S23) : List (S23))).bind fun y419 => (if 5 < (y412.length : Int) then ((some (y419.set (5 : Int).toNat (⟨(rd_T23 y419 5).f0, (rd_T23 y419 5).f1, (rd_T23 y419 5).f2, wrap64 (256 + (Int.tmod (wrap64 (a1)) 9)), (rd_T23 y419 5).f4⟩ : S23) : List (S23))).bind fun y420 => (if 6 < (y412.length : Int) then ((some (y420.set (6 : Int).toNat (⟨(rd_T23 y420 6).f0, (rd_T23 y420 6).f1, (rd_T23 y420 6).f2, wrap64 ((-1) - (Int.tmod (wrap64 (a1)) 9)), (rd_T23 y420 6).f4⟩ : S23) : List (S23))).bind fun y421 => (if 7 < (y412.length : Int) then (withylaw13_MetaEach.l0 k (y421.set (7 : Int).toNat (⟨(rd_T23 y421 7).f0, (rd_T23 y421 7).f1, (rd_T23 y421 7).f2, (rd_T23 y421 7).f3, wrap64 ((-1) - (Int.tmod (wrap64 (a1)) 9))⟩ : S23)) 0 a0_0 a0_1 a0_2 a0_3 a0_4) else (none))) else (none))) else (none))) else (none))) else (none))) else (none))) else (none))) else (none))) else ((meta_Encode.f k a0_0 a0_1 a0_2 a0_3 a0_4).bind fun bt409 => (if bt409.2 = 3 then (if bt409.1.toList = ([] : List UInt8) then ((withylaw13_fixed.f k).bind fun t411 => (some t411)) else (none)) else (none))))
theorem withylaw13_MetaEach.mono_l : ∀ k, (∀ y0 y1 y2 y3 y4 y5 y6, LeO (withylaw13_MetaEach.l0 k y0 y1 y2 y3 y4 y5 y6) (withylaw13_MetaEach.l0 (k + 1) y0 y1 y2 y3 y4 y5 y6))
 | 0 => fun _ _ _ _ _ _ _ r h => by simp [withylaw13_MetaEach.l0] at h
 | k + 1 => by
  have ih0 := withylaw13_MetaEach.mono_l k
  ·
   intro y0 y1 y2 y3 y4 y5 y6
   unfold withylaw13_MetaEach.l0
   repeat' first
   | (with_reducible exact ih0 _ _ _ _ _ _ _)
   | (with_reducible exact meta_Encode.mono _ _ _ _ _ _)
   | (with_reducible exact withylaw13_fixed.mono _)
   | (with_reducible exact LeO.refl _)
   | (with_reducible exact LeO.none _)
   | (with_reducible refine LeO.ite ?_ ?_)
   | (with_reducible refine LeO.bind ?_ (fun _ => ?_))
   | exact ih0 _ _ _ _ _ _ _
   | exact meta_Encode.mono _ _ _ _ _ _
   | exact withylaw13_fixed.mono _
   | exact LeO.none _
   | refine LeO.ite ?_ ?_
   | refine LeO.bind ?_ (fun _ => ?_)
theorem withylaw13_MetaEach.mono : ∀ a0 a1 a2 a3 a4 a5 k, LeO (withylaw13_MetaEach.f k a0 a1 a2 a3 a4 a5) (withylaw13_MetaEach.f (k + 1) a0 a1 a2 a3 a4 a5) := by
 intro a0 a1 a2 a3 a4 a5 k
 have ih0 := withylaw13_MetaEach.mono_l k
 unfold withylaw13_MetaEach.f
 repeat' first
   | (with_reducible exact ih0 _ _ _ _ _ _ _)
   | (with_reducible exact meta_Encode.mono _ _ _ _ _ _)
   | (with_reducible exact withylaw13_fixed.mono _)
   | (with_reducible exact LeO.refl _)
   | (with_reducible exact LeO.none _)
   | (with_reducible refine LeO.ite ?_ ?_)
   | (with_reducible refine LeO.bind ?_ (fun _ => ?_))
   | exact ih0 _ _ _ _ _ _ _
   | exact meta_Encode.mono _ _ _ _ _ _
   | exact withylaw13_fixed.mono _
   | exact LeO.none _
   | refine LeO.ite ?_ ?_
   | refine LeO.bind ?_ (fun _ => ?_)
set_option maxHeartbeats 8000000 in
set_option maxRecDepth 100000 in
theorem withylaw13_MetaEach.calls (k : Nat) (a0_0 : Int) (a0_1 : Int) (a0_2 : Int) (a0_3 : Int) (a0_4 : Int) (a1 : Int) (r : Bool) (w : World) (h : withylaw13_MetaEach.f k a0_0 a0_1 a0_2 a0_3 a0_4 a1 = some r) :
  Calls Try.prog 8 #[.agg #[.int .i64 a0_0, .int .i64 a0_1, .int .i64 a0_2, .int .i64 a0_3, .int .i64 a0_4], .int .u8 a1] w fun e w' => e = .returned (.bool r) ∧ Below w.heap.size w w' := by
 have hu23 := Try.underlying23
 have HB := Aside0.mk (Below.refl w.heap.size w)
 have H : ((meta_May.f a0_0 a0_1 a0_2 a0_3 a0_4).bind fun t408 => (if t408 = true then ((some (([(⟨a0_0, a0_1, a0_2, a0_3, a0_4⟩ : S23), (⟨a0_0, a0_1, a0_2, a0_3, a0_4⟩ : S23), (⟨a0_0, a0_1, a0_2, a0_3, a0_4⟩ : S23), (⟨a0_0, a0_1, a0_2, a0_3, a0_4⟩ : S23), (⟨a0_0, a0_1, a0_2, a0_3, a0_4⟩ : S23), (⟨a0_0, a0_1, a0_2, a0_3, a0_4⟩ : S23), (⟨a0_0, a0_1, a0_2, a0_3, a0_4⟩ : S23), (⟨a0_0, a0_1, a0_2, a0_3, a0_4⟩ : S23)] : List (S23)) : List (S23))).bind fun y412 => (if 0 < (y412.length : Int) then ((some (y412.set (0 : Int).toNat (⟨wrap64 ((wrap64 (a0_0 + 1)) + (Int.tmod (wrap64 (a1)) 9)), (rd_T23 y412 0).f1, (rd_T23 y412 0).f2, (rd_T23 y412 0).f3, (rd_T23 y412 0).f4⟩ : S23) : List (S23))).bind fun y415 => (if 1 < (y412.length : Int) then ((some (y415.set (1 : Int).toNat (⟨(rd_T23 y415 1).f0, wrap64 (1 - (Int.tmod (wrap64 (a1)) 9)), (rd_T23 y415 1).f2, (rd_T23 y415 1).f3, (rd_T23 y415 1).f4⟩ : S23) : List (S23))).bind fun y416 => (if 2 < (y412.length : Int) then ((some (y416.set (2 : Int).toNat (⟨(rd_T23 y416 2).f0, wrap64 (4097 + (Int.tmod (wrap64 (a1)) 9)), (rd_T23 y416 2).f2, (rd_T23 y416 2).f3, (rd_T23 y416 2).f4⟩ : S23) : List (S23))).bind fun y417 => (if 3 < (y412.length : Int) then ((some (y417.set (3 : Int).toNat (⟨(rd_T23 y417 3).f0, (rd_T23 y417 3).f1, wrap64 (-(Int.tmod (wrap64 (a1)) 9)), (rd_T23 y417 3).f3, (rd_T23 y417 3).f4⟩ : S23) : List (S23))).bind fun y418 => (if 4 < (y412.length : Int) then ((some (y418.set (4 : Int).toNat (⟨(rd_T23 y418 4).f0, (rd_T23 y418 4).f1, wrap64 (a0_1 + (Int.tmod (wrap64 (a1)) 9)), (rd_T23 y418 4).f3, (rd_T23 y418 4).f4⟩ : S23) : List (S23))).bind fun y419 => (if 5 < (y412.length : Int) then ((some (y419.set (5 : Int).toNat (⟨(rd_T23 y419 5).f0, (rd_T23 y419 5).f1, (rd_T23 y419 5).f2, wrap64 (256 + (Int.tmod (wrap64 (a1)) 9)), (rd_T23 y419 5).f4⟩ : S23) : List (S23))).bind fun y420 => (if 6 < (y412.length : Int) then ((some (y420.set (6 : Int).toNat (⟨(rd_T23 y420 6).f0, (rd_T23 y420 6).f1, (rd_T23 y420 6).f2, wrap64 ((-1) - (Int.tmod (wrap64 (a1)) 9)), (rd_T23 y420 6).f4⟩ : S23) : List (S23))).bind fun y421 => (if 7 < (y412.length : Int) then (withylaw13_MetaEach.l0 k (y421.set (7 : Int).toNat (⟨(rd_T23 y421 7).f0, (rd_T23 y421 7).f1, (rd_T23 y421 7).f2, (rd_T23 y421 7).f3, wrap64 ((-1) - (Int.tmod (wrap64 (a1)) 9))⟩ : S23)) 0 a0_0 a0_1 a0_2 a0_3 a0_4) else (none))) else (none))) else (none))) else (none))) else (none))) else (none))) else (none))) else (none))) else ((meta_Encode.f k a0_0 a0_1 a0_2 a0_3 a0_4).bind fun bt409 => (if bt409.2 = 3 then (if bt409.1.toList = ([] : List UInt8) then ((withylaw13_fixed.f k).bind fun t411 => (some t411)) else (none)) else (none))))) = some r := h
 clear h
 replace H := Option.bind_eq_some_iff.mp H
 obtain ⟨t408, A30, H⟩ := H
 replace H : (if t408 = true then ((some (([(⟨a0_0, a0_1, a0_2, a0_3, a0_4⟩ : S23), (⟨a0_0, a0_1, a0_2, a0_3, a0_4⟩ : S23), (⟨a0_0, a0_1, a0_2, a0_3, a0_4⟩ : S23), (⟨a0_0, a0_1, a0_2, a0_3, a0_4⟩ : S23), (⟨a0_0, a0_1, a0_2, a0_3, a0_4⟩ : S23), (⟨a0_0, a0_1, a0_2, a0_3, a0_4⟩ : S23), (⟨a0_0, a0_1, a0_2, a0_3, a0_4⟩ : S23), (⟨a0_0, a0_1, a0_2, a0_3, a0_4⟩ : S23)] : List (S23)) : List (S23))).bind fun y412 => (if 0 < (y412.length : Int) then ((some (y412.set (0 : Int).toNat (⟨wrap64 ((wrap64 (a0_0 + 1)) + (Int.tmod (wrap64 (a1)) 9)), (rd_T23 y412 0).f1, (rd_T23 y412 0).f2, (rd_T23 y412 0).f3, (rd_T23 y412 0).f4⟩ : S23) : List (S23))).bind fun y415 => (if 1 < (y412.length : Int) then ((some (y415.set (1 : Int).toNat (⟨(rd_T23 y415 1).f0, wrap64 (1 - (Int.tmod (wrap64 (a1)) 9)), (rd_T23 y415 1).f2, (rd_T23 y415 1).f3, (rd_T23 y415 1).f4⟩ : S23) : List (S23))).bind fun y416 => (if 2 < (y412.length : Int) then ((some (y416.set (2 : Int).toNat (⟨(rd_T23 y416 2).f0, wrap64 (4097 + (Int.tmod (wrap64 (a1)) 9)), (rd_T23 y416 2).f2, (rd_T23 y416 2).f3, (rd_T23 y416 2).f4⟩ : S23) : List (S23))).bind fun y417 => (if 3 < (y412.length : Int) then ((some (y417.set (3 : Int).toNat (⟨(rd_T23 y417 3).f0, (rd_T23 y417 3).f1, wrap64 (-(Int.tmod (wrap64 (a1)) 9)), (rd_T23 y417 3).f3, (rd_T23 y417 3).f4⟩ : S23) : List (S23))).bind fun y418 => (if 4 < (y412.length : Int) then ((some (y418.set (4 : Int).toNat (⟨(rd_T23 y418 4).f0, (rd_T23 y418 4).f1, wrap64 (a0_1 + (Int.tmod (wrap64 (a1)) 9)), (rd_T23 y418 4).f3, (rd_T23 y418 4).f4⟩ : S23) : List (S23))).bind fun y419 => (if 5 < (y412.length : Int) then ((some (y419.set (5 : Int).toNat (⟨(rd_T23 y419 5).f0, (rd_T23 y419 5).f1, (rd_T23 y419 5).f2, wrap64 (256 + (Int.tmod (wrap64 (a1)) 9)), (rd_T23 y419 5).f4⟩ : S23) : List (S23))).bind fun y420 => (if 6 < (y412.length : Int) then ((some (y420.set (6 : Int).toNat (⟨(rd_T23 y420 6).f0, (rd_T23 y420 6).f1, (rd_T23 y420 6).f2, wrap64 ((-1) - (Int.tmod (wrap64 (a1)) 9)), (rd_T23 y420 6).f4⟩ : S23) : List (S23))).bind fun y421 => (if 7 < (y412.length : Int) then (withylaw13_MetaEach.l0 k (y421.set (7 : Int).toNat (⟨(rd_T23 y421 7).f0, (rd_T23 y421 7).f1, (rd_T23 y421 7).f2, (rd_T23 y421 7).f3, wrap64 ((-1) - (Int.tmod (wrap64 (a1)) 9))⟩ : S23)) 0 a0_0 a0_1 a0_2 a0_3 a0_4) else (none))) else (none))) else (none))) else (none))) else (none))) else (none))) else (none))) else (none))) else ((meta_Encode.f k a0_0 a0_1 a0_2 a0_3 a0_4).bind fun bt409 => (if bt409.2 = 3 then (if bt409.1.toList = ([] : List UInt8) then ((withylaw13_fixed.f k).bind fun t411 => (some t411)) else (none)) else (none)))) = some r := H
 have A3 := Aside0.mk A30
 clear A30
 by_cases c4 : t408 = true
 ·
  subst c4
  have H1 : ((some (([(⟨a0_0, a0_1, a0_2, a0_3, a0_4⟩ : S23), (⟨a0_0, a0_1, a0_2, a0_3, a0_4⟩ : S23), (⟨a0_0, a0_1, a0_2, a0_3, a0_4⟩ : S23), (⟨a0_0, a0_1, a0_2, a0_3, a0_4⟩ : S23), (⟨a0_0, a0_1, a0_2, a0_3, a0_4⟩ : S23), (⟨a0_0, a0_1, a0_2, a0_3, a0_4⟩ : S23), (⟨a0_0, a0_1, a0_2, a0_3, a0_4⟩ : S23), (⟨a0_0, a0_1, a0_2, a0_3, a0_4⟩ : S23)] : List (S23)) : List (S23))).bind fun y412 => (if 0 < (y412.length : Int) then ((some (y412.set (0 : Int).toNat (⟨wrap64 ((wrap64 (a0_0 + 1)) + (Int.tmod (wrap64 (a1)) 9)), (rd_T23 y412 0).f1, (rd_T23 y412 0).f2, (rd_T23 y412 0).f3, (rd_T23 y412 0).f4⟩ : S23) : List (S23))).bind fun y415 => (if 1 < (y412.length : Int) then ((some (y415.set (1 : Int).toNat (⟨(rd_T23 y415 1).f0, wrap64 (1 - (Int.tmod (wrap64 (a1)) 9)), (rd_T23 y415 1).f2, (rd_T23 y415 1).f3, (rd_T23 y415 1).f4⟩ : S23) : List (S23))).bind fun y416 => (if 2 < (y412.length : Int) then ((some (y416.set (2 : Int).toNat (⟨(rd_T23 y416 2).f0, wrap64 (4097 + (Int.tmod (wrap64 (a1)) 9)), (rd_T23 y416 2).f2, (rd_T23 y416 2).f3, (rd_T23 y416 2).f4⟩ : S23) : List (S23))).bind fun y417 => (if 3 < (y412.length : Int) then ((some (y417.set (3 : Int).toNat (⟨(rd_T23 y417 3).f0, (rd_T23 y417 3).f1, wrap64 (-(Int.tmod (wrap64 (a1)) 9)), (rd_T23 y417 3).f3, (rd_T23 y417 3).f4⟩ : S23) : List (S23))).bind fun y418 => (if 4 < (y412.length : Int) then ((some (y418.set (4 : Int).toNat (⟨(rd_T23 y418 4).f0, (rd_T23 y418 4).f1, wrap64 (a0_1 + (Int.tmod (wrap64 (a1)) 9)), (rd_T23 y418 4).f3, (rd_T23 y418 4).f4⟩ : S23) : List (S23))).bind fun y419 => (if 5 < (y412.length : Int) then ((some (y419.set (5 : Int).toNat (⟨(rd_T23 y419 5).f0, (rd_T23 y419 5).f1, (rd_T23 y419 5).f2, wrap64 (256 + (Int.tmod (wrap64 (a1)) 9)), (rd_T23 y419 5).f4⟩ : S23) : List (S23))).bind fun y420 => (if 6 < (y412.length : Int) then ((some (y420.set (6 : Int).toNat (⟨(rd_T23 y420 6).f0, (rd_T23 y420 6).f1, (rd_T23 y420 6).f2, wrap64 ((-1) - (Int.tmod (wrap64 (a1)) 9)), (rd_T23 y420 6).f4⟩ : S23) : List (S23))).bind fun y421 => (if 7 < (y412.length : Int) then (withylaw13_MetaEach.l0 k (y421.set (7 : Int).toNat (⟨(rd_T23 y421 7).f0, (rd_T23 y421 7).f1, (rd_T23 y421 7).f2, (rd_T23 y421 7).f3, wrap64 ((-1) - (Int.tmod (wrap64 (a1)) 9))⟩ : S23)) 0 a0_0 a0_1 a0_2 a0_3 a0_4) else (none))) else (none))) else (none))) else (none))) else (none))) else (none))) else (none))) else (none))) = some r := by rw [if_pos rfl] at H; exact H
  clear H
  have H := H1
  clear H1
  obtain ⟨y412, hy412⟩ : ∃ y_ : List (S23), y_ = (([(⟨a0_0, a0_1, a0_2, a0_3, a0_4⟩ : S23), (⟨a0_0, a0_1, a0_2, a0_3, a0_4⟩ : S23), (⟨a0_0, a0_1, a0_2, a0_3, a0_4⟩ : S23), (⟨a0_0, a0_1, a0_2, a0_3, a0_4⟩ : S23), (⟨a0_0, a0_1, a0_2, a0_3, a0_4⟩ : S23), (⟨a0_0, a0_1, a0_2, a0_3, a0_4⟩ : S23), (⟨a0_0, a0_1, a0_2, a0_3, a0_4⟩ : S23), (⟨a0_0, a0_1, a0_2, a0_3, a0_4⟩ : S23)] : List (S23))) := ⟨_, rfl⟩
  replace H : (if 0 < (y412.length : Int) then ((some (y412.set (0 : Int).toNat (⟨wrap64 ((wrap64 (a0_0 + 1)) + (Int.tmod (wrap64 (a1)) 9)), (rd_T23 y412 0).f1, (rd_T23 y412 0).f2, (rd_T23 y412 0).f3, (rd_T23 y412 0).f4⟩ : S23) : List (S23))).bind fun y415 => (if 1 < (y412.length : Int) then ((some (y415.set (1 : Int).toNat (⟨(rd_T23 y415 1).f0, wrap64 (1 - (Int.tmod (wrap64 (a1)) 9)), (rd_T23 y415 1).f2, (rd_T23 y415 1).f3, (rd_T23 y415 1).f4⟩ : S23) : List (S23))).bind fun y416 => (if 2 < (y412.length : Int) then ((some (y416.set (2 : Int).toNat (⟨(rd_T23 y416 2).f0, wrap64 (4097 + (Int.tmod (wrap64 (a1)) 9)), (rd_T23 y416 2).f2, (rd_T23 y416 2).f3, (rd_T23 y416 2).f4⟩ : S23) : List (S23))).bind fun y417 => (if 3 < (y412.length : Int) then ((some (y417.set (3 : Int).toNat (⟨(rd_T23 y417 3).f0, (rd_T23 y417 3).f1, wrap64 (-(Int.tmod (wrap64 (a1)) 9)), (rd_T23 y417 3).f3, (rd_T23 y417 3).f4⟩ : S23) : List (S23))).bind fun y418 => (if 4 < (y412.length : Int) then ((some (y418.set (4 : Int).toNat (⟨(rd_T23 y418 4).f0, (rd_T23 y418 4).f1, wrap64 (a0_1 + (Int.tmod (wrap64 (a1)) 9)), (rd_T23 y418 4).f3, (rd_T23 y418 4).f4⟩ : S23) : List (S23))).bind fun y419 => (if 5 < (y412.length : Int) then ((some (y419.set (5 : Int).toNat (⟨(rd_T23 y419 5).f0, (rd_T23 y419 5).f1, (rd_T23 y419 5).f2, wrap64 (256 + (Int.tmod (wrap64 (a1)) 9)), (rd_T23 y419 5).f4⟩ : S23) : List (S23))).bind fun y420 => (if 6 < (y412.length : Int) then ((some (y420.set (6 : Int).toNat (⟨(rd_T23 y420 6).f0, (rd_T23 y420 6).f1, (rd_T23 y420 6).f2, wrap64 ((-1) - (Int.tmod (wrap64 (a1)) 9)), (rd_T23 y420 6).f4⟩ : S23) : List (S23))).bind fun y421 => (if 7 < (y412.length : Int) then (withylaw13_MetaEach.l0 k (y421.set (7 : Int).toNat (⟨(rd_T23 y421 7).f0, (rd_T23 y421 7).f1, (rd_T23 y421 7).f2, (rd_T23 y421 7).f3, wrap64 ((-1) - (Int.tmod (wrap64 (a1)) 9))⟩ : S23)) 0 a0_0 a0_1 a0_2 a0_3 a0_4) else (none))) else (none))) else (none))) else (none))) else (none))) else (none))) else (none))) else (none)) = some r := by first | (rw [hy412]; with_reducible exact H) | (have H2_ := (Option.bind_some _ _).symm.trans H; rw [hy412]; with_reducible exact H2_) | (have H2_ := (Option.bind_some _ _).symm.trans H; with_reducible exact H2_) | with_reducible exact H | (rw [hy412]; exact H) | exact H
  have Ny412 := Aside0.mk hy412
  clear hy412
  by_cases c5 : 0 < (y412.length : Int)
  ·
   rw [if_pos c5] at H
   have c5b0 : decide (0 < (y412.length : Int)) = true := decide_eq_true c5
   have c5b1 : decide (0 < y412.length) = true := decide_eq_true (by omega)
   clear c5
   obtain ⟨y415, hy415⟩ : ∃ y_ : List (S23), y_ = (y412.set (0 : Int).toNat (⟨wrap64 ((wrap64 (a0_0 + 1)) + (Int.tmod (wrap64 (a1)) 9)), (rd_T23 y412 0).f1, (rd_T23 y412 0).f2, (rd_T23 y412 0).f3, (rd_T23 y412 0).f4⟩ : S23)) := ⟨_, rfl⟩
   replace H : (if 1 < (y412.length : Int) then ((some (y415.set (1 : Int).toNat (⟨(rd_T23 y415 1).f0, wrap64 (1 - (Int.tmod (wrap64 (a1)) 9)), (rd_T23 y415 1).f2, (rd_T23 y415 1).f3, (rd_T23 y415 1).f4⟩ : S23) : List (S23))).bind fun y416 => (if 2 < (y412.length : Int) then ((some (y416.set (2 : Int).toNat (⟨(rd_T23 y416 2).f0, wrap64 (4097 + (Int.tmod (wrap64 (a1)) 9)), (rd_T23 y416 2).f2, (rd_T23 y416 2).f3, (rd_T23 y416 2).f4⟩ : S23) : List (S23))).bind fun y417 => (if 3 < (y412.length : Int) then ((some (y417.set (3 : Int).toNat (⟨(rd_T23 y417 3).f0, (rd_T23 y417 3).f1, wrap64 (-(Int.tmod (wrap64 (a1)) 9)), (rd_T23 y417 3).f3, (rd_T23 y417 3).f4⟩ : S23) : List (S23))).bind fun y418 => (if 4 < (y412.length : Int) then ((some (y418.set (4 : Int).toNat (⟨(rd_T23 y418 4).f0, (rd_T23 y418 4).f1, wrap64 (a0_1 + (Int.tmod (wrap64 (a1)) 9)), (rd_T23 y418 4).f3, (rd_T23 y418 4).f4⟩ : S23) : List (S23))).bind fun y419 => (if 5 < (y412.length : Int) then ((some (y419.set (5 : Int).toNat (⟨(rd_T23 y419 5).f0, (rd_T23 y419 5).f1, (rd_T23 y419 5).f2, wrap64 (256 + (Int.tmod (wrap64 (a1)) 9)), (rd_T23 y419 5).f4⟩ : S23) : List (S23))).bind fun y420 => (if 6 < (y412.length : Int) then ((some (y420.set (6 : Int).toNat (⟨(rd_T23 y420 6).f0, (rd_T23 y420 6).f1, (rd_T23 y420 6).f2, wrap64 ((-1) - (Int.tmod (wrap64 (a1)) 9)), (rd_T23 y420 6).f4⟩ : S23) : List (S23))).bind fun y421 => (if 7 < (y412.length : Int) then (withylaw13_MetaEach.l0 k (y421.set (7 : Int).toNat (⟨(rd_T23 y421 7).f0, (rd_T23 y421 7).f1, (rd_T23 y421 7).f2, (rd_T23 y421 7).f3, wrap64 ((-1) - (Int.tmod (wrap64 (a1)) 9))⟩ : S23)) 0 a0_0 a0_1 a0_2 a0_3 a0_4) else (none))) else (none))) else (none))) else (none))) else (none))) else (none))) else (none)) = some r := by first | (rw [hy415]; with_reducible exact H) | (have H2_ := (Option.bind_some _ _).symm.trans H; rw [hy415]; with_reducible exact H2_) | (have H2_ := (Option.bind_some _ _).symm.trans H; with_reducible exact H2_) | with_reducible exact H | (rw [hy415]; exact H) | exact H
   have Ny415 := Aside0.mk hy415
   clear hy415
   by_cases c7 : 1 < (y412.length : Int)
   ·
    rw [if_pos c7] at H
    have c7b0 : decide (1 < (y412.length : Int)) = true := decide_eq_true c7
    have c7b1 : decide (1 < y412.length) = true := decide_eq_true (by omega)
    clear c7
    obtain ⟨y416, hy416⟩ : ∃ y_ : List (S23), y_ = (y415.set (1 : Int).toNat (⟨(rd_T23 y415 1).f0, wrap64 (1 - (Int.tmod (wrap64 (a1)) 9)), (rd_T23 y415 1).f2, (rd_T23 y415 1).f3, (rd_T23 y415 1).f4⟩ : S23)) := ⟨_, rfl⟩
    replace H : (if 2 < (y412.length : Int) then ((some (y416.set (2 : Int).toNat (⟨(rd_T23 y416 2).f0, wrap64 (4097 + (Int.tmod (wrap64 (a1)) 9)), (rd_T23 y416 2).f2, (rd_T23 y416 2).f3, (rd_T23 y416 2).f4⟩ : S23) : List (S23))).bind fun y417 => (if 3 < (y412.length : Int) then ((some (y417.set (3 : Int).toNat (⟨(rd_T23 y417 3).f0, (rd_T23 y417 3).f1, wrap64 (-(Int.tmod (wrap64 (a1)) 9)), (rd_T23 y417 3).f3, (rd_T23 y417 3).f4⟩ : S23) : List (S23))).bind fun y418 => (if 4 < (y412.length : Int) then ((some (y418.set (4 : Int).toNat (⟨(rd_T23 y418 4).f0, (rd_T23 y418 4).f1, wrap64 (a0_1 + (Int.tmod (wrap64 (a1)) 9)), (rd_T23 y418 4).f3, (rd_T23 y418 4).f4⟩ : S23) : List (S23))).bind fun y419 => (if 5 < (y412.length : Int) then ((some (y419.set (5 : Int).toNat (⟨(rd_T23 y419 5).f0, (rd_T23 y419 5).f1, (rd_T23 y419 5).f2, wrap64 (256 + (Int.tmod (wrap64 (a1)) 9)), (rd_T23 y419 5).f4⟩ : S23) : List (S23))).bind fun y420 => (if 6 < (y412.length : Int) then ((some (y420.set (6 : Int).toNat (⟨(rd_T23 y420 6).f0, (rd_T23 y420 6).f1, (rd_T23 y420 6).f2, wrap64 ((-1) - (Int.tmod (wrap64 (a1)) 9)), (rd_T23 y420 6).f4⟩ : S23) : List (S23))).bind fun y421 => (if 7 < (y412.length : Int) then (withylaw13_MetaEach.l0 k (y421.set (7 : Int).toNat (⟨(rd_T23 y421 7).f0, (rd_T23 y421 7).f1, (rd_T23 y421 7).f2, (rd_T23 y421 7).f3, wrap64 ((-1) - (Int.tmod (wrap64 (a1)) 9))⟩ : S23)) 0 a0_0 a0_1 a0_2 a0_3 a0_4) else (none))) else (none))) else (none))) else (none))) else (none))) else (none)) = some r := by first | (rw [hy416]; with_reducible exact H) | (have H2_ := (Option.bind_some _ _).symm.trans H; rw [hy416]; with_reducible exact H2_) | (have H2_ := (Option.bind_some _ _).symm.trans H; with_reducible exact H2_) | with_reducible exact H | (rw [hy416]; exact H) | exact H
    have Ny416 := Aside0.mk hy416
    clear hy416
    by_cases c9 : 2 < (y412.length : Int)
    ·
     rw [if_pos c9] at H
     have c9b0 : decide (2 < (y412.length : Int)) = true := decide_eq_true c9
     have c9b1 : decide (2 < y412.length) = true := decide_eq_true (by omega)
     clear c9
     obtain ⟨y417, hy417⟩ : ∃ y_ : List (S23), y_ = (y416.set (2 : Int).toNat (⟨(rd_T23 y416 2).f0, wrap64 (4097 + (Int.tmod (wrap64 (a1)) 9)), (rd_T23 y416 2).f2, (rd_T23 y416 2).f3, (rd_T23 y416 2).f4⟩ : S23)) := ⟨_, rfl⟩
     replace H : (if 3 < (y412.length : Int) then ((some (y417.set (3 : Int).toNat (⟨(rd_T23 y417 3).f0, (rd_T23 y417 3).f1, wrap64 (-(Int.tmod (wrap64 (a1)) 9)), (rd_T23 y417 3).f3, (rd_T23 y417 3).f4⟩ : S23) : List (S23))).bind fun y418 => (if 4 < (y412.length : Int) then ((some (y418.set (4 : Int).toNat (⟨(rd_T23 y418 4).f0, (rd_T23 y418 4).f1, wrap64 (a0_1 + (Int.tmod (wrap64 (a1)) 9)), (rd_T23 y418 4).f3, (rd_T23 y418 4).f4⟩ : S23) : List (S23))).bind fun y419 => (if 5 < (y412.length : Int) then ((some (y419.set (5 : Int).toNat (⟨(rd_T23 y419 5).f0, (rd_T23 y419 5).f1, (rd_T23 y419 5).f2, wrap64 (256 + (Int.tmod (wrap64 (a1)) 9)), (rd_T23 y419 5).f4⟩ : S23) : List (S23))).bind fun y420 => (if 6 < (y412.length : Int) then ((some (y420.set (6 : Int).toNat (⟨(rd_T23 y420 6).f0, (rd_T23 y420 6).f1, (rd_T23 y420 6).f2, wrap64 ((-1) - (Int.tmod (wrap64 (a1)) 9)), (rd_T23 y420 6).f4⟩ : S23) : List (S23))).bind fun y421 => (if 7 < (y412.length : Int) then (withylaw13_MetaEach.l0 k (y421.set (7 : Int).toNat (⟨(rd_T23 y421 7).f0, (rd_T23 y421 7).f1, (rd_T23 y421 7).f2, (rd_T23 y421 7).f3, wrap64 ((-1) - (Int.tmod (wrap64 (a1)) 9))⟩ : S23)) 0 a0_0 a0_1 a0_2 a0_3 a0_4) else (none))) else (none))) else (none))) else (none))) else (none)) = some r := by first | (rw [hy417]; with_reducible exact H) | (have H2_ := (Option.bind_some _ _).symm.trans H; rw [hy417]; with_reducible exact H2_) | (have H2_ := (Option.bind_some _ _).symm.trans H; with_reducible exact H2_) | with_reducible exact H | (rw [hy417]; exact H) | exact H
     have Ny417 := Aside0.mk hy417
     clear hy417
     by_cases c11 : 3 < (y412.length : Int)
     ·
      rw [if_pos c11] at H
      have c11b0 : decide (3 < (y412.length : Int)) = true := decide_eq_true c11
      have c11b1 : decide (3 < y412.length) = true := decide_eq_true (by omega)
      clear c11
      obtain ⟨y418, hy418⟩ : ∃ y_ : List (S23), y_ = (y417.set (3 : Int).toNat (⟨(rd_T23 y417 3).f0, (rd_T23 y417 3).f1, wrap64 (-(Int.tmod (wrap64 (a1)) 9)), (rd_T23 y417 3).f3, (rd_T23 y417 3).f4⟩ : S23)) := ⟨_, rfl⟩
      replace H : (if 4 < (y412.length : Int) then ((some (y418.set (4 : Int).toNat (⟨(rd_T23 y418 4).f0, (rd_T23 y418 4).f1, wrap64 (a0_1 + (Int.tmod (wrap64 (a1)) 9)), (rd_T23 y418 4).f3, (rd_T23 y418 4).f4⟩ : S23) : List (S23))).bind fun y419 => (if 5 < (y412.length : Int) then ((some (y419.set (5 : Int).toNat (⟨(rd_T23 y419 5).f0, (rd_T23 y419 5).f1, (rd_T23 y419 5).f2, wrap64 (256 + (Int.tmod (wrap64 (a1)) 9)), (rd_T23 y419 5).f4⟩ : S23) : List (S23))).bind fun y420 => (if 6 < (y412.length : Int) then ((some (y420.set (6 : Int).toNat (⟨(rd_T23 y420 6).f0, (rd_T23 y420 6).f1, (rd_T23 y420 6).f2, wrap64 ((-1) - (Int.tmod (wrap64 (a1)) 9)), (rd_T23 y420 6).f4⟩ : S23) : List (S23))).bind fun y421 => (if 7 < (y412.length : Int) then (withylaw13_MetaEach.l0 k (y421.set (7 : Int).toNat (⟨(rd_T23 y421 7).f0, (rd_T23 y421 7).f1, (rd_T23 y421 7).f2, (rd_T23 y421 7).f3, wrap64 ((-1) - (Int.tmod (wrap64 (a1)) 9))⟩ : S23)) 0 a0_0 a0_1 a0_2 a0_3 a0_4) else (none))) else (none))) else (none))) else (none)) = some r := by first | (rw [hy418]; with_reducible exact H) | (have H2_ := (Option.bind_some _ _).symm.trans H; rw [hy418]; with_reducible exact H2_) | (have H2_ := (Option.bind_some _ _).symm.trans H; with_reducible exact H2_) | with_reducible exact H | (rw [hy418]; exact H) | exact H
      have Ny418 := Aside0.mk hy418
      clear hy418
      by_cases c13 : 4 < (y412.length : Int)
      ·
       rw [if_pos c13] at H
       have c13b0 : decide (4 < (y412.length : Int)) = true := decide_eq_true c13
       have c13b1 : decide (4 < y412.length) = true := decide_eq_true (by omega)
       clear c13
       obtain ⟨y419, hy419⟩ : ∃ y_ : List (S23), y_ = (y418.set (4 : Int).toNat (⟨(rd_T23 y418 4).f0, (rd_T23 y418 4).f1, wrap64 (a0_1 + (Int.tmod (wrap64 (a1)) 9)), (rd_T23 y418 4).f3, (rd_T23 y418 4).f4⟩ : S23)) := ⟨_, rfl⟩
       replace H : (if 5 < (y412.length : Int) then ((some (y419.set (5 : Int).toNat (⟨(rd_T23 y419 5).f0, (rd_T23 y419 5).f1, (rd_T23 y419 5).f2, wrap64 (256 + (Int.tmod (wrap64 (a1)) 9)), (rd_T23 y419 5).f4⟩ : S23) : List (S23))).bind fun y420 => (if 6 < (y412.length : Int) then ((some (y420.set (6 : Int).toNat (⟨(rd_T23 y420 6).f0, (rd_T23 y420 6).f1, (rd_T23 y420 6).f2, wrap64 ((-1) - (Int.tmod (wrap64 (a1)) 9)), (rd_T23 y420 6).f4⟩ : S23) : List (S23))).bind fun y421 => (if 7 < (y412.length : Int) then (withylaw13_MetaEach.l0 k (y421.set (7 : Int).toNat (⟨(rd_T23 y421 7).f0, (rd_T23 y421 7).f1, (rd_T23 y421 7).f2, (rd_T23 y421 7).f3, wrap64 ((-1) - (Int.tmod (wrap64 (a1)) 9))⟩ : S23)) 0 a0_0 a0_1 a0_2 a0_3 a0_4) else (none))) else (none))) else (none)) = some r := by first | (rw [hy419]; with_reducible exact H) | (have H2_ := (Option.bind_some _ _).symm.trans H; rw [hy419]; with_reducible exact H2_) | (have H2_ := (Option.bind_some _ _).symm.trans H; with_reducible exact H2_) | with_reducible exact H | (rw [hy419]; exact H) | exact H
       have Ny419 := Aside0.mk hy419
       clear hy419
       by_cases c15 : 5 < (y412.length : Int)
       ·
        rw [if_pos c15] at H
        have c15b0 : decide (5 < (y412.length : Int)) = true := decide_eq_true c15
        have c15b1 : decide (5 < y412.length) = true := decide_eq_true (by omega)
        clear c15
        obtain ⟨y420, hy420⟩ : ∃ y_ : List (S23), y_ = (y419.set (5 : Int).toNat (⟨(rd_T23 y419 5).f0, (rd_T23 y419 5).f1, (rd_T23 y419 5).f2, wrap64 (256 + (Int.tmod (wrap64 (a1)) 9)), (rd_T23 y419 5).f4⟩ : S23)) := ⟨_, rfl⟩
        replace H : (if 6 < (y412.length : Int) then ((some (y420.set (6 : Int).toNat (⟨(rd_T23 y420 6).f0, (rd_T23 y420 6).f1, (rd_T23 y420 6).f2, wrap64 ((-1) - (Int.tmod (wrap64 (a1)) 9)), (rd_T23 y420 6).f4⟩ : S23) : List (S23))).bind fun y421 => (if 7 < (y412.length : Int) then (withylaw13_MetaEach.l0 k (y421.set (7 : Int).toNat (⟨(rd_T23 y421 7).f0, (rd_T23 y421 7).f1, (rd_T23 y421 7).f2, (rd_T23 y421 7).f3, wrap64 ((-1) - (Int.tmod (wrap64 (a1)) 9))⟩ : S23)) 0 a0_0 a0_1 a0_2 a0_3 a0_4) else (none))) else (none)) = some r := by first | (rw [hy420]; with_reducible exact H) | (have H2_ := (Option.bind_some _ _).symm.trans H; rw [hy420]; with_reducible exact H2_) | (have H2_ := (Option.bind_some _ _).symm.trans H; with_reducible exact H2_) | with_reducible exact H | (rw [hy420]; exact H) | exact H
        have Ny420 := Aside0.mk hy420
        clear hy420
        by_cases c17 : 6 < (y412.length : Int)
        ·
         rw [if_pos c17] at H
         have c17b0 : decide (6 < (y412.length : Int)) = true := decide_eq_true c17
         have c17b1 : decide (6 < y412.length) = true := decide_eq_true (by omega)
         clear c17
         obtain ⟨y421, hy421⟩ : ∃ y_ : List (S23), y_ = (y420.set (6 : Int).toNat (⟨(rd_T23 y420 6).f0, (rd_T23 y420 6).f1, (rd_T23 y420 6).f2, wrap64 ((-1) - (Int.tmod (wrap64 (a1)) 9)), (rd_T23 y420 6).f4⟩ : S23)) := ⟨_, rfl⟩
         replace H : (if 7 < (y412.length : Int) then (withylaw13_MetaEach.l0 k (y421.set (7 : Int).toNat (⟨(rd_T23 y421 7).f0, (rd_T23 y421 7).f1, (rd_T23 y421 7).f2, (rd_T23 y421 7).f3, wrap64 ((-1) - (Int.tmod (wrap64 (a1)) 9))⟩ : S23)) 0 a0_0 a0_1 a0_2 a0_3 a0_4) else (none)) = some r := by first | (rw [hy421]; with_reducible exact H) | (have H2_ := (Option.bind_some _ _).symm.trans H; rw [hy421]; with_reducible exact H2_) | (have H2_ := (Option.bind_some _ _).symm.trans H; with_reducible exact H2_) | with_reducible exact H | (rw [hy421]; exact H) | exact H
         have Ny421 := Aside0.mk hy421
         clear hy421
         by_cases c19 : 7 < (y412.length : Int)
         ·
          rw [if_pos c19] at H
          have c19b0 : decide (7 < (y412.length : Int)) = true := decide_eq_true c19
          have c19b1 : decide (7 < y412.length) = true := decide_eq_true (by omega)
          clear c19
          obtain ⟨y422, hy422⟩ : ∃ y_ : List (S23), y_ = (y421.set (7 : Int).toNat (⟨(rd_T23 y421 7).f0, (rd_T23 y421 7).f1, (rd_T23 y421 7).f2, (rd_T23 y421 7).f3, wrap64 ((-1) - (Int.tmod (wrap64 (a1)) 9))⟩ : S23)) := ⟨_, rfl⟩
          replace H : (withylaw13_MetaEach.l0 k y422 0 a0_0 a0_1 a0_2 a0_3 a0_4) = some r := by first | (rw [hy422]; with_reducible exact H) | (have H2_ := (Option.bind_some _ _).symm.trans H; rw [hy422]; with_reducible exact H2_) | (have H2_ := (Option.bind_some _ _).symm.trans H; with_reducible exact H2_) | with_reducible exact H | (rw [hy422]; exact H) | exact H
          have Ny422 := Aside0.mk hy422
          clear hy422
          have H' := Aside0.mk H
          clear H
          go_enter Try.func8, Try.ntmps8
          go_wp2_with (first | ((with_reducible refine gate_dst (N := 2) rfl ?_); refine box_event ?hg (N := 2) ?hd (cs := #[.int .i64 a0_0, .int .i64 a0_1, .int .i64 a0_2, .int .i64 a0_3, .int .i64 a0_4]) (t := 23) ?hr ?_; (case hd => rfl); (case hg => rfl); (case hr => first | (go_simp; done) | (go_simp; rfl)); intro gb407 hg w21 hbox hb; have n0_ := Aside0.mk (below_step (by repeat (first | (with_reducible first | exact HB.out | apply below_alloc | apply pw_below_drewN | apply below_drew1) | exact HB.out)) hb); have n1_ := Aside0.mk (hbox); have n2_ := Aside0.mk ((by rw [hg]; exact (below_size (by repeat (first | (with_reducible first | exact HB.out | apply below_alloc | apply pw_below_drewN | apply below_drew1) | exact HB.out))) : w.heap.size ≤ gb407)); have n3_ := Aside0.mk ((by rw [hg]; exact (below_size (by repeat (first | (with_reducible first | exact HB.out | apply below_alloc | apply pw_below_drewN | apply below_drew1) | exact HB.out))) : w.heap.size ≤ gb407)); clear HB; have HB := n0_; have BK407 := n1_; have GW407 := n2_; have GE407 := n3_; clear n0_ n1_ n2_ n3_; clear hb hbox hg; have hcz22_0 : w21.cell? ⟨gb407, 0, none⟩ = some (.int .i64 a0_0) := (blk_cell BK407.out 0).trans rfl; have hcz22_1 : w21.cell? ⟨gb407, 1, none⟩ = some (.int .i64 a0_1) := (blk_cell BK407.out 1).trans rfl; have hcz22_2 : w21.cell? ⟨gb407, 2, none⟩ = some (.int .i64 a0_2) := (blk_cell BK407.out 2).trans rfl; have hcz22_3 : w21.cell? ⟨gb407, 3, none⟩ = some (.int .i64 a0_3) := (blk_cell BK407.out 3).trans rfl; have hcz22_4 : w21.cell? ⟨gb407, 4, none⟩ = some (.int .i64 a0_4) := (blk_cell BK407.out 4).trans rfl; have hfz22_0 := blk_frozen BK407.out 0; have hfz22_1 := blk_frozen BK407.out 1; have hfz22_2 := blk_frozen BK407.out 2; have hfz22_3 := blk_frozen BK407.out 3; have hfz22_4 := blk_frozen BK407.out 4) | ((with_reducible refine gate_callee (f := 14) rfl ?_); refine goesL_ (some 13) rfl rfl Try.func14 (by kernel_rfl) rfl #[.agg #[.int .i64 a0_0, .int .i64 a0_1, .int .i64 a0_2, .int .i64 a0_3, .int .i64 a0_4]] rfl (by (try simp only [List.map_toArray, List.map_cons, List.map_nil]); first | done | rfl | (simp only [List.length_drop, List.length_take]; rfl)) ?_; (with_reducible refine (meta_May.calls a0_0 a0_1 a0_2 a0_3 a0_4 true _ A3.out).mono ?_); rintro e w23 ⟨rfl, hb⟩; refine ⟨_, rfl, ?_⟩; have n0_ := Aside0.mk (blk_below (g := gb407) (o := .cells #[.int .i64 a0_0, .int .i64 a0_1, .int .i64 a0_2, .int .i64 a0_3, .int .i64 a0_4] 23 (0, 0)) (by (with_reducible repeat (first | refine blk_drewN ?_ _ | refine blk_drew ?_ | refine blk_alloc ?_ _)); exact BK407.out) hb); have n1_ := Aside0.mk (below_step (by repeat (first | (with_reducible first | exact HB.out | apply below_alloc | apply pw_below_drewN | apply below_drew1 | refine below_set ?_ GE407.out) | exact HB.out)) hb); clear BK407; clear HB; have BK407 := n0_; have HB := n1_; clear n0_ n1_; (try clear hb); (try clear hb2); (try clear hk); (try clear hi); have hcz24_0 : w23.cell? ⟨gb407, 0, none⟩ = some (.int .i64 a0_0) := (blk_cell BK407.out 0).trans rfl; have hcz24_1 : w23.cell? ⟨gb407, 1, none⟩ = some (.int .i64 a0_1) := (blk_cell BK407.out 1).trans rfl; have hcz24_2 : w23.cell? ⟨gb407, 2, none⟩ = some (.int .i64 a0_2) := (blk_cell BK407.out 2).trans rfl; have hcz24_3 : w23.cell? ⟨gb407, 3, none⟩ = some (.int .i64 a0_3) := (blk_cell BK407.out 3).trans rfl; have hcz24_4 : w23.cell? ⟨gb407, 4, none⟩ = some (.int .i64 a0_4) := (blk_cell BK407.out 4).trans rfl; have hfz24_0 := blk_frozen BK407.out 0; have hfz24_1 := blk_frozen BK407.out 1; have hfz24_2 := blk_frozen BK407.out 2; have hfz24_3 := blk_frozen BK407.out 3; have hfz24_4 := blk_frozen BK407.out 4) | ((with_reducible refine gate_dst (N := 37) rfl ?_); refine Kd.R_lit k23 _ 23 ?hg (N := 37) ?hd (xs := ([(⟨a0_0, a0_1, a0_2, a0_3, a0_4⟩ : S23), (⟨a0_0, a0_1, a0_2, a0_3, a0_4⟩ : S23), (⟨a0_0, a0_1, a0_2, a0_3, a0_4⟩ : S23), (⟨a0_0, a0_1, a0_2, a0_3, a0_4⟩ : S23), (⟨a0_0, a0_1, a0_2, a0_3, a0_4⟩ : S23), (⟨a0_0, a0_1, a0_2, a0_3, a0_4⟩ : S23), (⟨a0_0, a0_1, a0_2, a0_3, a0_4⟩ : S23), (⟨a0_0, a0_1, a0_2, a0_3, a0_4⟩ : S23)] : List (S23))) (inner := [.int .i64 a0_0, .int .i64 a0_1, .int .i64 a0_2, .int .i64 a0_3, .int .i64 a0_4, .int .i64 a0_0, .int .i64 a0_1, .int .i64 a0_2, .int .i64 a0_3, .int .i64 a0_4, .int .i64 a0_0, .int .i64 a0_1, .int .i64 a0_2, .int .i64 a0_3, .int .i64 a0_4, .int .i64 a0_0, .int .i64 a0_1, .int .i64 a0_2, .int .i64 a0_3, .int .i64 a0_4, .int .i64 a0_0, .int .i64 a0_1, .int .i64 a0_2, .int .i64 a0_3, .int .i64 a0_4, .int .i64 a0_0, .int .i64 a0_1, .int .i64 a0_2, .int .i64 a0_3, .int .i64 a0_4, .int .i64 a0_0, .int .i64 a0_1, .int .i64 a0_2, .int .i64 a0_3, .int .i64 a0_4, .int .i64 a0_0, .int .i64 a0_1, .int .i64 a0_2, .int .i64 a0_3, .int .i64 a0_4]) (ok := fun _ => True) (okp := fun _ => True) ?hr ?hp (fun _ hk => hk) trivial (Below.refl _ _) (Nat.le_refl _) (by simp) ?_; (case hd => rfl); (case hg => rfl); (case hr => first | (go_simp; done) | (go_simp; rfl)); (case hp => exact (Reps.c5 (show Kd.M k23 _ _ _ (⟨a0_0, a0_1, a0_2, a0_3, a0_4⟩ : S23) [.int .i64 a0_0, .int .i64 a0_1, .int .i64 a0_2, .int .i64 a0_3, .int .i64 a0_4] from (k23_mkM _ _ _ (⟨a0_0, a0_1, a0_2, a0_3, a0_4⟩ : S23) )) (Reps.c5 (show Kd.M k23 _ _ _ (⟨a0_0, a0_1, a0_2, a0_3, a0_4⟩ : S23) [.int .i64 a0_0, .int .i64 a0_1, .int .i64 a0_2, .int .i64 a0_3, .int .i64 a0_4] from (k23_mkM _ _ _ (⟨a0_0, a0_1, a0_2, a0_3, a0_4⟩ : S23) )) (Reps.c5 (show Kd.M k23 _ _ _ (⟨a0_0, a0_1, a0_2, a0_3, a0_4⟩ : S23) [.int .i64 a0_0, .int .i64 a0_1, .int .i64 a0_2, .int .i64 a0_3, .int .i64 a0_4] from (k23_mkM _ _ _ (⟨a0_0, a0_1, a0_2, a0_3, a0_4⟩ : S23) )) (Reps.c5 (show Kd.M k23 _ _ _ (⟨a0_0, a0_1, a0_2, a0_3, a0_4⟩ : S23) [.int .i64 a0_0, .int .i64 a0_1, .int .i64 a0_2, .int .i64 a0_3, .int .i64 a0_4] from (k23_mkM _ _ _ (⟨a0_0, a0_1, a0_2, a0_3, a0_4⟩ : S23) )) (Reps.c5 (show Kd.M k23 _ _ _ (⟨a0_0, a0_1, a0_2, a0_3, a0_4⟩ : S23) [.int .i64 a0_0, .int .i64 a0_1, .int .i64 a0_2, .int .i64 a0_3, .int .i64 a0_4] from (k23_mkM _ _ _ (⟨a0_0, a0_1, a0_2, a0_3, a0_4⟩ : S23) )) (Reps.c5 (show Kd.M k23 _ _ _ (⟨a0_0, a0_1, a0_2, a0_3, a0_4⟩ : S23) [.int .i64 a0_0, .int .i64 a0_1, .int .i64 a0_2, .int .i64 a0_3, .int .i64 a0_4] from (k23_mkM _ _ _ (⟨a0_0, a0_1, a0_2, a0_3, a0_4⟩ : S23) )) (Reps.c5 (show Kd.M k23 _ _ _ (⟨a0_0, a0_1, a0_2, a0_3, a0_4⟩ : S23) [.int .i64 a0_0, .int .i64 a0_1, .int .i64 a0_2, .int .i64 a0_3, .int .i64 a0_4] from (k23_mkM _ _ _ (⟨a0_0, a0_1, a0_2, a0_3, a0_4⟩ : S23) )) (Reps.c5 (show Kd.M k23 _ _ _ (⟨a0_0, a0_1, a0_2, a0_3, a0_4⟩ : S23) [.int .i64 a0_0, .int .i64 a0_1, .int .i64 a0_2, .int .i64 a0_3, .int .i64 a0_4] from (k23_mkM _ _ _ (⟨a0_0, a0_1, a0_2, a0_3, a0_4⟩ : S23) )) (Reps.none _ _)))))))))); intro v413 w25 ho26 hb hg_ hnew_; clear hg_ hnew_; (first | rw [← Ny412.out] at ho26 | (simp only [Int.reduceToNat] at ho26; rw [← Ny412.out] at ho26)); have n0_ := Aside0.mk (Kd.R_lower (Kd.R_newB ho26 (g := gb407) (o := .cells #[.int .i64 a0_0, .int .i64 a0_1, .int .i64 a0_2, .int .i64 a0_3, .int .i64 a0_4] 23 (0, 0)) (by (with_reducible repeat (first | refine blk_drewN ?_ _ | refine blk_drew ?_ | refine blk_alloc ?_ _)); exact BK407.out)) (below_size (by repeat (first | (with_reducible first | exact HB.out | apply below_alloc | apply pw_below_drewN | apply below_drew1 | refine below_set ?_ GE407.out) | exact HB.out)))); have n1_ := Aside0.mk (blk_below (g := gb407) (o := .cells #[.int .i64 a0_0, .int .i64 a0_1, .int .i64 a0_2, .int .i64 a0_3, .int .i64 a0_4] 23 (0, 0)) (by (with_reducible repeat (first | refine blk_drewN ?_ _ | refine blk_drew ?_ | refine blk_alloc ?_ _)); exact BK407.out) hb); have n2_ := Aside0.mk (below_step (by repeat (first | (with_reducible first | exact HB.out | apply below_alloc | apply pw_below_drewN | apply below_drew1 | refine below_set ?_ GE407.out) | exact HB.out)) hb); clear BK407; clear HB; have HO414 := n0_; have BK407 := n1_; have HB := n2_; clear n0_ n1_ n2_; clear hb ho26; have hcz27_0 : w25.cell? ⟨gb407, 0, none⟩ = some (.int .i64 a0_0) := (blk_cell BK407.out 0).trans rfl; have hcz27_1 : w25.cell? ⟨gb407, 1, none⟩ = some (.int .i64 a0_1) := (blk_cell BK407.out 1).trans rfl; have hcz27_2 : w25.cell? ⟨gb407, 2, none⟩ = some (.int .i64 a0_2) := (blk_cell BK407.out 2).trans rfl; have hcz27_3 : w25.cell? ⟨gb407, 3, none⟩ = some (.int .i64 a0_3) := (blk_cell BK407.out 3).trans rfl; have hcz27_4 : w25.cell? ⟨gb407, 4, none⟩ = some (.int .i64 a0_4) := (blk_cell BK407.out 4).trans rfl; have hfz27_0 := blk_frozen BK407.out 0; have hfz27_1 := blk_frozen BK407.out 1; have hfz27_2 := blk_frozen BK407.out 2; have hfz27_3 := blk_frozen BK407.out 3; have hfz27_4 := blk_frozen BK407.out 4; have p6 : 0 ≤ (0 : Int) := (by omega); have q6 : (0 : Int) < ((y412.length : Int) : Int) := of_decide_eq_true (by first | (with_reducible assumption) | assumption); have qi6 : (0 < y412.length) = True := eq_true (by omega); obtain ⟨go6, co6, eo6, gb6, gl6, cl6, HG6⟩ := Kd.R_form HO414.out (by omega); (first | cases eo6 | (injection eo6 with ea_ en_ ec_; (first | subst ea_ | (injection ea_ with ea_; subst ea_)); subst ec_; clear en_)); have GB6 := Aside0.mk gb6; have GG6 := Aside0.mk HG6; clear gb6 gl6 HG6; obtain ⟨ce6, hcl6, hM6, hcc6, hfr6⟩ := Kd.R_elem HO414.out z23 (0 : Int) p6 q6; obtain rfl := k23_openM hM6; have hx6_0 : w25.cell? ⟨go6, (0 : Int).toNat * 5, none⟩ = some (.int .i64 ((rd_T23 y412 0).f0)) := hcc6 0 _ rfl; have hx6_1 : w25.cell? ⟨go6, (0 : Int).toNat * 5 + 1, none⟩ = some (.int .i64 ((rd_T23 y412 0).f1)) := hcc6 1 _ rfl; have hx6_2 : w25.cell? ⟨go6, (0 : Int).toNat * 5 + 2, none⟩ = some (.int .i64 ((rd_T23 y412 0).f2)) := hcc6 2 _ rfl; have hx6_3 : w25.cell? ⟨go6, (0 : Int).toNat * 5 + 3, none⟩ = some (.int .i64 ((rd_T23 y412 0).f3)) := hcc6 3 _ rfl; have hx6_4 : w25.cell? ⟨go6, (0 : Int).toNat * 5 + 4, none⟩ = some (.int .i64 ((rd_T23 y412 0).f4)) := hcc6 4 _ rfl; have hf6_0 : w25.frozen? ⟨go6, (0 : Int).toNat * 5, none⟩ = false := hfr6 0; have hf6_1 : w25.frozen? ⟨go6, (0 : Int).toNat * 5 + 1, none⟩ = false := hfr6 1; have hf6_2 : w25.frozen? ⟨go6, (0 : Int).toNat * 5 + 2, none⟩ = false := hfr6 2; have hf6_3 : w25.frozen? ⟨go6, (0 : Int).toNat * 5 + 3, none⟩ = false := hfr6 3; have hf6_4 : w25.frozen? ⟨go6, (0 : Int).toNat * 5 + 4, none⟩ = false := hfr6 4; clear hcl6 hcc6 hfr6 hM6; (try rw [show ((0 : Int)).toNat = 0 from rfl] at hx6_0); (try simp only [Nat.reduceMul, Nat.zero_mul, Nat.zero_add, Nat.reduceAdd] at hx6_0); (try rw [show ((0 : Int)).toNat = 0 from rfl] at hf6_0); (try simp only [Nat.reduceMul, Nat.zero_mul, Nat.zero_add, Nat.reduceAdd] at hf6_0); (try rw [show ((0 : Int)).toNat = 0 from rfl] at hx6_1); (try simp only [Nat.reduceMul, Nat.zero_mul, Nat.zero_add, Nat.reduceAdd] at hx6_1); (try rw [show ((0 : Int)).toNat = 0 from rfl] at hf6_1); (try simp only [Nat.reduceMul, Nat.zero_mul, Nat.zero_add, Nat.reduceAdd] at hf6_1); (try rw [show ((0 : Int)).toNat = 0 from rfl] at hx6_2); (try simp only [Nat.reduceMul, Nat.zero_mul, Nat.zero_add, Nat.reduceAdd] at hx6_2); (try rw [show ((0 : Int)).toNat = 0 from rfl] at hf6_2); (try simp only [Nat.reduceMul, Nat.zero_mul, Nat.zero_add, Nat.reduceAdd] at hf6_2); (try rw [show ((0 : Int)).toNat = 0 from rfl] at hx6_3); (try simp only [Nat.reduceMul, Nat.zero_mul, Nat.zero_add, Nat.reduceAdd] at hx6_3); (try rw [show ((0 : Int)).toNat = 0 from rfl] at hf6_3); (try simp only [Nat.reduceMul, Nat.zero_mul, Nat.zero_add, Nat.reduceAdd] at hf6_3); (try rw [show ((0 : Int)).toNat = 0 from rfl] at hx6_4); (try simp only [Nat.reduceMul, Nat.zero_mul, Nat.zero_add, Nat.reduceAdd] at hx6_4); (try rw [show ((0 : Int)).toNat = 0 from rfl] at hf6_4); (try simp only [Nat.reduceMul, Nat.zero_mul, Nat.zero_add, Nat.reduceAdd] at hf6_4); replace p6 := eq_true p6; replace q6 := eq_true q6; have n_ := Aside0.mk (Kd.R_mono (ok' := (fun k_ => k_ ≠ gb407)) HO414.out (fun k_ hk => hk.2)); clear HO414; have HO414 := n_; clear n_; have HX28 := Aside0.mk (show Kd.R k23 23 w25 w.heap.size (fun k_ => k_ ≠ gb407) (.slice (some ⟨go6, 0, none⟩) y412.length co6) y412 from (by (with_reducible repeat (first | apply Kd.R_alloc | apply Kd.R_drewN | apply Kd.R_drew)); exact HO414.out)); obtain ⟨ce28, hcl28, hM28, hcc28, hfr28⟩ := Kd.R_elem HX28.out z23 (0 : Int) (by omega) (by have h_ : (0 : Int) < ((y412.length : Int) : Int) := of_decide_eq_true (by first | (with_reducible assumption) | assumption); first | exact h_ | (have e_ := (Kd.R_reads' HO414.out).1; omega) | simpa using h_); obtain rfl := k23_openM hM28; have HP28 := Kd.R_seg HX28.out (0 : Int) (by omega) (by have h_ : (0 : Int) < ((y412.length : Int) : Int) := of_decide_eq_true (by first | (with_reducible assumption) | assumption); first | exact h_ | (have e_ := (Kd.R_reads' HO414.out).1; omega) | simpa using h_) (seg := [.int .i64 (wrap64 ((wrap64 (a0_0 + 1)) + (Int.tmod (wrap64 (a1)) 9)))]) (j := 0) hcl28 hcc28 (show 1 ≤ 5 from by decide) (x' := (⟨wrap64 ((wrap64 (a0_0 + 1)) + (Int.tmod (wrap64 (a1)) 9)), (rd_T23 y412 0).f1, (rd_T23 y412 0).f2, (rd_T23 y412 0).f3, (rd_T23 y412 0).f4⟩ : S23)) (k23_mkM _ _ _ (⟨wrap64 ((wrap64 (a0_0 + 1)) + (Int.tmod (wrap64 (a1)) 9)), (rd_T23 y412 0).f1, (rd_T23 y412 0).f2, (rd_T23 y412 0).f3, (rd_T23 y412 0).f4⟩ : S23) ) (fun _ hk => hk); have hx28_0 := hcc28 0 _ rfl; (try simp only [show (k23).sz = 5 from rfl, Nat.mul_one, Nat.add_zero] at hx28_0); (try rw [show ((0 : Int)).toNat = 0 from rfl] at hx28_0); (try simp only [Nat.reduceMul, Nat.zero_mul, Nat.zero_add, Nat.reduceAdd] at hx28_0); have hf28_0 := hfr28 0; (try simp only [show (k23).sz = 5 from rfl, Nat.mul_one, Nat.add_zero] at hf28_0); (try rw [show ((0 : Int)).toNat = 0 from rfl] at hf28_0); (try simp only [Nat.reduceMul, Nat.zero_mul, Nat.zero_add, Nat.reduceAdd] at hf28_0); clear hcl28 hcc28 hfr28 hM28) | ((with_reducible refine gate_store (t := 3) (p := 48) rfl ?_); refine store_event (t := 3) (p := 48) (v := ?vo_w29) (w1 := (w25.setCell ⟨go6, 0, none⟩ (.int .i64 (wrap64 ((wrap64 (a0_0 + 1)) + (Int.tmod (wrap64 (a1)) 9)))))) ?hg ?ho ?hn ?hr ?_; (case ho => rfl); (case hg => rfl); (case hn => rfl); (case hr => first | (go_simp; done) | (go_simp; rfl)); intro w29 hw; have hg : w25.grownBy w29 (some go6) := (by rw [hw]; exact HP28.2); have hp_ : Kd.R k23 23 w29 w.heap.size (fun k_ => k_ ≠ gb407) (.slice (some ⟨go6, 0, none⟩) y412.length co6) y415 := (by rw [hw, Ny415.out]; exact HP28.1); clear HP28; have n0_ := Aside0.mk (blk_grown (g := gb407) (o := .cells #[.int .i64 a0_0, .int .i64 a0_1, .int .i64 a0_2, .int .i64 a0_3, .int .i64 a0_4] 23 (0, 0)) (by (with_reducible repeat (first | refine blk_drewN ?_ _ | refine blk_drew ?_ | refine blk_alloc ?_ _)); exact BK407.out) hg (Kd.R_away HO414.out (fun _ hk => hk))); have n1_ := Aside0.mk (hp_); have n2_ := Aside0.mk ((by rw [hw]; exact below_set (HB.out) GB6.out : Below w.heap.size w w29)); clear BK407; clear HO414; clear HB; have BK407 := n0_; have HO414 := n1_; have HB := n2_; clear n0_ n1_ n2_; clear hg hw hp_; have p8 : 0 ≤ (1 : Int) := (by omega); have q8 : (1 : Int) < ((y412.length : Int) : Int) := of_decide_eq_true (by first | (with_reducible assumption) | assumption); have qi8 : (1 < y412.length) = True := eq_true (by omega); obtain ⟨ce8, hcl8, hM8, hcc8, hfr8⟩ := Kd.R_elem HO414.out z23 (1 : Int) p8 q8; obtain rfl := k23_openM hM8; have hx8_0 : w29.cell? ⟨go6, (1 : Int).toNat * 5, none⟩ = some (.int .i64 ((rd_T23 y415 1).f0)) := hcc8 0 _ rfl; have hx8_1 : w29.cell? ⟨go6, (1 : Int).toNat * 5 + 1, none⟩ = some (.int .i64 ((rd_T23 y415 1).f1)) := hcc8 1 _ rfl; have hx8_2 : w29.cell? ⟨go6, (1 : Int).toNat * 5 + 2, none⟩ = some (.int .i64 ((rd_T23 y415 1).f2)) := hcc8 2 _ rfl; have hx8_3 : w29.cell? ⟨go6, (1 : Int).toNat * 5 + 3, none⟩ = some (.int .i64 ((rd_T23 y415 1).f3)) := hcc8 3 _ rfl; have hx8_4 : w29.cell? ⟨go6, (1 : Int).toNat * 5 + 4, none⟩ = some (.int .i64 ((rd_T23 y415 1).f4)) := hcc8 4 _ rfl; have hf8_0 : w29.frozen? ⟨go6, (1 : Int).toNat * 5, none⟩ = false := hfr8 0; have hf8_1 : w29.frozen? ⟨go6, (1 : Int).toNat * 5 + 1, none⟩ = false := hfr8 1; have hf8_2 : w29.frozen? ⟨go6, (1 : Int).toNat * 5 + 2, none⟩ = false := hfr8 2; have hf8_3 : w29.frozen? ⟨go6, (1 : Int).toNat * 5 + 3, none⟩ = false := hfr8 3; have hf8_4 : w29.frozen? ⟨go6, (1 : Int).toNat * 5 + 4, none⟩ = false := hfr8 4; clear hcl8 hcc8 hfr8 hM8; (try rw [show ((1 : Int)).toNat = 1 from rfl] at hx8_0); (try simp only [Nat.reduceMul, Nat.zero_mul, Nat.zero_add, Nat.reduceAdd] at hx8_0); (try rw [show ((1 : Int)).toNat = 1 from rfl] at hf8_0); (try simp only [Nat.reduceMul, Nat.zero_mul, Nat.zero_add, Nat.reduceAdd] at hf8_0); (try rw [show ((1 : Int)).toNat = 1 from rfl] at hx8_1); (try simp only [Nat.reduceMul, Nat.zero_mul, Nat.zero_add, Nat.reduceAdd] at hx8_1); (try rw [show ((1 : Int)).toNat = 1 from rfl] at hf8_1); (try simp only [Nat.reduceMul, Nat.zero_mul, Nat.zero_add, Nat.reduceAdd] at hf8_1); (try rw [show ((1 : Int)).toNat = 1 from rfl] at hx8_2); (try simp only [Nat.reduceMul, Nat.zero_mul, Nat.zero_add, Nat.reduceAdd] at hx8_2); (try rw [show ((1 : Int)).toNat = 1 from rfl] at hf8_2); (try simp only [Nat.reduceMul, Nat.zero_mul, Nat.zero_add, Nat.reduceAdd] at hf8_2); (try rw [show ((1 : Int)).toNat = 1 from rfl] at hx8_3); (try simp only [Nat.reduceMul, Nat.zero_mul, Nat.zero_add, Nat.reduceAdd] at hx8_3); (try rw [show ((1 : Int)).toNat = 1 from rfl] at hf8_3); (try simp only [Nat.reduceMul, Nat.zero_mul, Nat.zero_add, Nat.reduceAdd] at hf8_3); (try rw [show ((1 : Int)).toNat = 1 from rfl] at hx8_4); (try simp only [Nat.reduceMul, Nat.zero_mul, Nat.zero_add, Nat.reduceAdd] at hx8_4); (try rw [show ((1 : Int)).toNat = 1 from rfl] at hf8_4); (try simp only [Nat.reduceMul, Nat.zero_mul, Nat.zero_add, Nat.reduceAdd] at hf8_4); replace p8 := eq_true p8; replace q8 := eq_true q8; have HX30 := Aside0.mk (show Kd.R k23 23 w29 w.heap.size (fun k_ => k_ ≠ gb407) (.slice (some ⟨go6, 0, none⟩) y412.length co6) y415 from (by (with_reducible repeat (first | apply Kd.R_alloc | apply Kd.R_drewN | apply Kd.R_drew)); exact HO414.out)); obtain ⟨ce30, hcl30, hM30, hcc30, hfr30⟩ := Kd.R_elem HX30.out z23 (1 : Int) (by omega) (by have h_ : (1 : Int) < ((y412.length : Int) : Int) := of_decide_eq_true (by first | (with_reducible assumption) | assumption); first | exact h_ | (have e_ := (Kd.R_reads' HO414.out).1; omega) | simpa using h_); obtain rfl := k23_openM hM30; have HP30 := Kd.R_seg HX30.out (1 : Int) (by omega) (by have h_ : (1 : Int) < ((y412.length : Int) : Int) := of_decide_eq_true (by first | (with_reducible assumption) | assumption); first | exact h_ | (have e_ := (Kd.R_reads' HO414.out).1; omega) | simpa using h_) (seg := [.int .i64 (wrap64 (1 - (Int.tmod (wrap64 (a1)) 9)))]) (j := 1) hcl30 hcc30 (show 2 ≤ 5 from by decide) (x' := (⟨(rd_T23 y415 1).f0, wrap64 (1 - (Int.tmod (wrap64 (a1)) 9)), (rd_T23 y415 1).f2, (rd_T23 y415 1).f3, (rd_T23 y415 1).f4⟩ : S23)) (k23_mkM _ _ _ (⟨(rd_T23 y415 1).f0, wrap64 (1 - (Int.tmod (wrap64 (a1)) 9)), (rd_T23 y415 1).f2, (rd_T23 y415 1).f3, (rd_T23 y415 1).f4⟩ : S23) ) (fun _ hk => hk); have hx30_1 := hcc30 1 _ rfl; (try simp only [show (k23).sz = 5 from rfl, Nat.mul_one, Nat.add_zero] at hx30_1); (try rw [show ((1 : Int)).toNat = 1 from rfl] at hx30_1); (try simp only [Nat.reduceMul, Nat.zero_mul, Nat.zero_add, Nat.reduceAdd] at hx30_1); have hf30_1 := hfr30 1; (try simp only [show (k23).sz = 5 from rfl, Nat.mul_one, Nat.add_zero] at hf30_1); (try rw [show ((1 : Int)).toNat = 1 from rfl] at hf30_1); (try simp only [Nat.reduceMul, Nat.zero_mul, Nat.zero_add, Nat.reduceAdd] at hf30_1); clear hcl30 hcc30 hfr30 hM30) | ((with_reducible refine gate_store (t := 3) (p := 53) rfl ?_); refine store_event (t := 3) (p := 53) (v := ?vo_w31) (w1 := (w29.setCell ⟨go6, 6, none⟩ (.int .i64 (wrap64 (1 - (Int.tmod (wrap64 (a1)) 9)))))) ?hg ?ho ?hn ?hr ?_; (case ho => rfl); (case hg => rfl); (case hn => rfl); (case hr => first | (go_simp; done) | (go_simp; rfl)); intro w31 hw; have hg : w29.grownBy w31 (some go6) := (by rw [hw]; exact HP30.2); have hp_ : Kd.R k23 23 w31 w.heap.size (fun k_ => k_ ≠ gb407) (.slice (some ⟨go6, 0, none⟩) y412.length co6) y416 := (by rw [hw, Ny416.out]; exact HP30.1); clear HP30; have n0_ := Aside0.mk (blk_grown (g := gb407) (o := .cells #[.int .i64 a0_0, .int .i64 a0_1, .int .i64 a0_2, .int .i64 a0_3, .int .i64 a0_4] 23 (0, 0)) (by (with_reducible repeat (first | refine blk_drewN ?_ _ | refine blk_drew ?_ | refine blk_alloc ?_ _)); exact BK407.out) hg (Kd.R_away HO414.out (fun _ hk => hk))); have n1_ := Aside0.mk (hp_); have n2_ := Aside0.mk ((by rw [hw]; exact below_set (HB.out) GB6.out : Below w.heap.size w w31)); clear BK407; clear HO414; clear HB; have BK407 := n0_; have HO414 := n1_; have HB := n2_; clear n0_ n1_ n2_; clear hg hw hp_; have p10 : 0 ≤ (2 : Int) := (by omega); have q10 : (2 : Int) < ((y412.length : Int) : Int) := of_decide_eq_true (by first | (with_reducible assumption) | assumption); have qi10 : (2 < y412.length) = True := eq_true (by omega); obtain ⟨ce10, hcl10, hM10, hcc10, hfr10⟩ := Kd.R_elem HO414.out z23 (2 : Int) p10 q10; obtain rfl := k23_openM hM10; have hx10_0 : w31.cell? ⟨go6, (2 : Int).toNat * 5, none⟩ = some (.int .i64 ((rd_T23 y416 2).f0)) := hcc10 0 _ rfl; have hx10_1 : w31.cell? ⟨go6, (2 : Int).toNat * 5 + 1, none⟩ = some (.int .i64 ((rd_T23 y416 2).f1)) := hcc10 1 _ rfl; have hx10_2 : w31.cell? ⟨go6, (2 : Int).toNat * 5 + 2, none⟩ = some (.int .i64 ((rd_T23 y416 2).f2)) := hcc10 2 _ rfl; have hx10_3 : w31.cell? ⟨go6, (2 : Int).toNat * 5 + 3, none⟩ = some (.int .i64 ((rd_T23 y416 2).f3)) := hcc10 3 _ rfl; have hx10_4 : w31.cell? ⟨go6, (2 : Int).toNat * 5 + 4, none⟩ = some (.int .i64 ((rd_T23 y416 2).f4)) := hcc10 4 _ rfl; have hf10_0 : w31.frozen? ⟨go6, (2 : Int).toNat * 5, none⟩ = false := hfr10 0; have hf10_1 : w31.frozen? ⟨go6, (2 : Int).toNat * 5 + 1, none⟩ = false := hfr10 1; have hf10_2 : w31.frozen? ⟨go6, (2 : Int).toNat * 5 + 2, none⟩ = false := hfr10 2; have hf10_3 : w31.frozen? ⟨go6, (2 : Int).toNat * 5 + 3, none⟩ = false := hfr10 3; have hf10_4 : w31.frozen? ⟨go6, (2 : Int).toNat * 5 + 4, none⟩ = false := hfr10 4; clear hcl10 hcc10 hfr10 hM10; (try rw [show ((2 : Int)).toNat = 2 from rfl] at hx10_0); (try simp only [Nat.reduceMul, Nat.zero_mul, Nat.zero_add, Nat.reduceAdd] at hx10_0); (try rw [show ((2 : Int)).toNat = 2 from rfl] at hf10_0); (try simp only [Nat.reduceMul, Nat.zero_mul, Nat.zero_add, Nat.reduceAdd] at hf10_0); (try rw [show ((2 : Int)).toNat = 2 from rfl] at hx10_1); (try simp only [Nat.reduceMul, Nat.zero_mul, Nat.zero_add, Nat.reduceAdd] at hx10_1); (try rw [show ((2 : Int)).toNat = 2 from rfl] at hf10_1); (try simp only [Nat.reduceMul, Nat.zero_mul, Nat.zero_add, Nat.reduceAdd] at hf10_1); (try rw [show ((2 : Int)).toNat = 2 from rfl] at hx10_2); (try simp only [Nat.reduceMul, Nat.zero_mul, Nat.zero_add, Nat.reduceAdd] at hx10_2); (try rw [show ((2 : Int)).toNat = 2 from rfl] at hf10_2); (try simp only [Nat.reduceMul, Nat.zero_mul, Nat.zero_add, Nat.reduceAdd] at hf10_2); (try rw [show ((2 : Int)).toNat = 2 from rfl] at hx10_3); (try simp only [Nat.reduceMul, Nat.zero_mul, Nat.zero_add, Nat.reduceAdd] at hx10_3); (try rw [show ((2 : Int)).toNat = 2 from rfl] at hf10_3); (try simp only [Nat.reduceMul, Nat.zero_mul, Nat.zero_add, Nat.reduceAdd] at hf10_3); (try rw [show ((2 : Int)).toNat = 2 from rfl] at hx10_4); (try simp only [Nat.reduceMul, Nat.zero_mul, Nat.zero_add, Nat.reduceAdd] at hx10_4); (try rw [show ((2 : Int)).toNat = 2 from rfl] at hf10_4); (try simp only [Nat.reduceMul, Nat.zero_mul, Nat.zero_add, Nat.reduceAdd] at hf10_4); replace p10 := eq_true p10; replace q10 := eq_true q10; have HX32 := Aside0.mk (show Kd.R k23 23 w31 w.heap.size (fun k_ => k_ ≠ gb407) (.slice (some ⟨go6, 0, none⟩) y412.length co6) y416 from (by (with_reducible repeat (first | apply Kd.R_alloc | apply Kd.R_drewN | apply Kd.R_drew)); exact HO414.out)); obtain ⟨ce32, hcl32, hM32, hcc32, hfr32⟩ := Kd.R_elem HX32.out z23 (2 : Int) (by omega) (by have h_ : (2 : Int) < ((y412.length : Int) : Int) := of_decide_eq_true (by first | (with_reducible assumption) | assumption); first | exact h_ | (have e_ := (Kd.R_reads' HO414.out).1; omega) | simpa using h_); obtain rfl := k23_openM hM32; have HP32 := Kd.R_seg HX32.out (2 : Int) (by omega) (by have h_ : (2 : Int) < ((y412.length : Int) : Int) := of_decide_eq_true (by first | (with_reducible assumption) | assumption); first | exact h_ | (have e_ := (Kd.R_reads' HO414.out).1; omega) | simpa using h_) (seg := [.int .i64 (wrap64 (4097 + (Int.tmod (wrap64 (a1)) 9)))]) (j := 1) hcl32 hcc32 (show 2 ≤ 5 from by decide) (x' := (⟨(rd_T23 y416 2).f0, wrap64 (4097 + (Int.tmod (wrap64 (a1)) 9)), (rd_T23 y416 2).f2, (rd_T23 y416 2).f3, (rd_T23 y416 2).f4⟩ : S23)) (k23_mkM _ _ _ (⟨(rd_T23 y416 2).f0, wrap64 (4097 + (Int.tmod (wrap64 (a1)) 9)), (rd_T23 y416 2).f2, (rd_T23 y416 2).f3, (rd_T23 y416 2).f4⟩ : S23) ) (fun _ hk => hk); have hx32_1 := hcc32 1 _ rfl; (try simp only [show (k23).sz = 5 from rfl, Nat.mul_one, Nat.add_zero] at hx32_1); (try rw [show ((2 : Int)).toNat = 2 from rfl] at hx32_1); (try simp only [Nat.reduceMul, Nat.zero_mul, Nat.zero_add, Nat.reduceAdd] at hx32_1); have hf32_1 := hfr32 1; (try simp only [show (k23).sz = 5 from rfl, Nat.mul_one, Nat.add_zero] at hf32_1); (try rw [show ((2 : Int)).toNat = 2 from rfl] at hf32_1); (try simp only [Nat.reduceMul, Nat.zero_mul, Nat.zero_add, Nat.reduceAdd] at hf32_1); clear hcl32 hcc32 hfr32 hM32) | ((with_reducible refine gate_store (t := 3) (p := 58) rfl ?_); refine store_event (t := 3) (p := 58) (v := ?vo_w33) (w1 := (w31.setCell ⟨go6, 11, none⟩ (.int .i64 (wrap64 (4097 + (Int.tmod (wrap64 (a1)) 9)))))) ?hg ?ho ?hn ?hr ?_; (case ho => rfl); (case hg => rfl); (case hn => rfl); (case hr => first | (go_simp; done) | (go_simp; rfl)); intro w33 hw; have hg : w31.grownBy w33 (some go6) := (by rw [hw]; exact HP32.2); have hp_ : Kd.R k23 23 w33 w.heap.size (fun k_ => k_ ≠ gb407) (.slice (some ⟨go6, 0, none⟩) y412.length co6) y417 := (by rw [hw, Ny417.out]; exact HP32.1); clear HP32; have n0_ := Aside0.mk (blk_grown (g := gb407) (o := .cells #[.int .i64 a0_0, .int .i64 a0_1, .int .i64 a0_2, .int .i64 a0_3, .int .i64 a0_4] 23 (0, 0)) (by (with_reducible repeat (first | refine blk_drewN ?_ _ | refine blk_drew ?_ | refine blk_alloc ?_ _)); exact BK407.out) hg (Kd.R_away HO414.out (fun _ hk => hk))); have n1_ := Aside0.mk (hp_); have n2_ := Aside0.mk ((by rw [hw]; exact below_set (HB.out) GB6.out : Below w.heap.size w w33)); clear BK407; clear HO414; clear HB; have BK407 := n0_; have HO414 := n1_; have HB := n2_; clear n0_ n1_ n2_; clear hg hw hp_; have p12 : 0 ≤ (3 : Int) := (by omega); have q12 : (3 : Int) < ((y412.length : Int) : Int) := of_decide_eq_true (by first | (with_reducible assumption) | assumption); have qi12 : (3 < y412.length) = True := eq_true (by omega); obtain ⟨ce12, hcl12, hM12, hcc12, hfr12⟩ := Kd.R_elem HO414.out z23 (3 : Int) p12 q12; obtain rfl := k23_openM hM12; have hx12_0 : w33.cell? ⟨go6, (3 : Int).toNat * 5, none⟩ = some (.int .i64 ((rd_T23 y417 3).f0)) := hcc12 0 _ rfl; have hx12_1 : w33.cell? ⟨go6, (3 : Int).toNat * 5 + 1, none⟩ = some (.int .i64 ((rd_T23 y417 3).f1)) := hcc12 1 _ rfl; have hx12_2 : w33.cell? ⟨go6, (3 : Int).toNat * 5 + 2, none⟩ = some (.int .i64 ((rd_T23 y417 3).f2)) := hcc12 2 _ rfl; have hx12_3 : w33.cell? ⟨go6, (3 : Int).toNat * 5 + 3, none⟩ = some (.int .i64 ((rd_T23 y417 3).f3)) := hcc12 3 _ rfl; have hx12_4 : w33.cell? ⟨go6, (3 : Int).toNat * 5 + 4, none⟩ = some (.int .i64 ((rd_T23 y417 3).f4)) := hcc12 4 _ rfl; have hf12_0 : w33.frozen? ⟨go6, (3 : Int).toNat * 5, none⟩ = false := hfr12 0; have hf12_1 : w33.frozen? ⟨go6, (3 : Int).toNat * 5 + 1, none⟩ = false := hfr12 1; have hf12_2 : w33.frozen? ⟨go6, (3 : Int).toNat * 5 + 2, none⟩ = false := hfr12 2; have hf12_3 : w33.frozen? ⟨go6, (3 : Int).toNat * 5 + 3, none⟩ = false := hfr12 3; have hf12_4 : w33.frozen? ⟨go6, (3 : Int).toNat * 5 + 4, none⟩ = false := hfr12 4; clear hcl12 hcc12 hfr12 hM12; (try rw [show ((3 : Int)).toNat = 3 from rfl] at hx12_0); (try simp only [Nat.reduceMul, Nat.zero_mul, Nat.zero_add, Nat.reduceAdd] at hx12_0); (try rw [show ((3 : Int)).toNat = 3 from rfl] at hf12_0); (try simp only [Nat.reduceMul, Nat.zero_mul, Nat.zero_add, Nat.reduceAdd] at hf12_0); (try rw [show ((3 : Int)).toNat = 3 from rfl] at hx12_1); (try simp only [Nat.reduceMul, Nat.zero_mul, Nat.zero_add, Nat.reduceAdd] at hx12_1); (try rw [show ((3 : Int)).toNat = 3 from rfl] at hf12_1); (try simp only [Nat.reduceMul, Nat.zero_mul, Nat.zero_add, Nat.reduceAdd] at hf12_1); (try rw [show ((3 : Int)).toNat = 3 from rfl] at hx12_2); (try simp only [Nat.reduceMul, Nat.zero_mul, Nat.zero_add, Nat.reduceAdd] at hx12_2); (try rw [show ((3 : Int)).toNat = 3 from rfl] at hf12_2); (try simp only [Nat.reduceMul, Nat.zero_mul, Nat.zero_add, Nat.reduceAdd] at hf12_2); (try rw [show ((3 : Int)).toNat = 3 from rfl] at hx12_3); (try simp only [Nat.reduceMul, Nat.zero_mul, Nat.zero_add, Nat.reduceAdd] at hx12_3); (try rw [show ((3 : Int)).toNat = 3 from rfl] at hf12_3); (try simp only [Nat.reduceMul, Nat.zero_mul, Nat.zero_add, Nat.reduceAdd] at hf12_3); (try rw [show ((3 : Int)).toNat = 3 from rfl] at hx12_4); (try simp only [Nat.reduceMul, Nat.zero_mul, Nat.zero_add, Nat.reduceAdd] at hx12_4); (try rw [show ((3 : Int)).toNat = 3 from rfl] at hf12_4); (try simp only [Nat.reduceMul, Nat.zero_mul, Nat.zero_add, Nat.reduceAdd] at hf12_4); replace p12 := eq_true p12; replace q12 := eq_true q12; have HX34 := Aside0.mk (show Kd.R k23 23 w33 w.heap.size (fun k_ => k_ ≠ gb407) (.slice (some ⟨go6, 0, none⟩) y412.length co6) y417 from (by (with_reducible repeat (first | apply Kd.R_alloc | apply Kd.R_drewN | apply Kd.R_drew)); exact HO414.out)); obtain ⟨ce34, hcl34, hM34, hcc34, hfr34⟩ := Kd.R_elem HX34.out z23 (3 : Int) (by omega) (by have h_ : (3 : Int) < ((y412.length : Int) : Int) := of_decide_eq_true (by first | (with_reducible assumption) | assumption); first | exact h_ | (have e_ := (Kd.R_reads' HO414.out).1; omega) | simpa using h_); obtain rfl := k23_openM hM34; have HP34 := Kd.R_seg HX34.out (3 : Int) (by omega) (by have h_ : (3 : Int) < ((y412.length : Int) : Int) := of_decide_eq_true (by first | (with_reducible assumption) | assumption); first | exact h_ | (have e_ := (Kd.R_reads' HO414.out).1; omega) | simpa using h_) (seg := [.int .i64 (wrap64 (-(Int.tmod (wrap64 (a1)) 9)))]) (j := 2) hcl34 hcc34 (show 3 ≤ 5 from by decide) (x' := (⟨(rd_T23 y417 3).f0, (rd_T23 y417 3).f1, wrap64 (-(Int.tmod (wrap64 (a1)) 9)), (rd_T23 y417 3).f3, (rd_T23 y417 3).f4⟩ : S23)) (k23_mkM _ _ _ (⟨(rd_T23 y417 3).f0, (rd_T23 y417 3).f1, wrap64 (-(Int.tmod (wrap64 (a1)) 9)), (rd_T23 y417 3).f3, (rd_T23 y417 3).f4⟩ : S23) ) (fun _ hk => hk); have hx34_2 := hcc34 2 _ rfl; (try simp only [show (k23).sz = 5 from rfl, Nat.mul_one, Nat.add_zero] at hx34_2); (try rw [show ((3 : Int)).toNat = 3 from rfl] at hx34_2); (try simp only [Nat.reduceMul, Nat.zero_mul, Nat.zero_add, Nat.reduceAdd] at hx34_2); have hf34_2 := hfr34 2; (try simp only [show (k23).sz = 5 from rfl, Nat.mul_one, Nat.add_zero] at hf34_2); (try rw [show ((3 : Int)).toNat = 3 from rfl] at hf34_2); (try simp only [Nat.reduceMul, Nat.zero_mul, Nat.zero_add, Nat.reduceAdd] at hf34_2); clear hcl34 hcc34 hfr34 hM34) | ((with_reducible refine gate_store (t := 3) (p := 63) rfl ?_); refine store_event (t := 3) (p := 63) (v := ?vo_w35) (w1 := (w33.setCell ⟨go6, 17, none⟩ (.int .i64 (wrap64 (-(Int.tmod (wrap64 (a1)) 9)))))) ?hg ?ho ?hn ?hr ?_; (case ho => rfl); (case hg => rfl); (case hn => rfl); (case hr => first | (go_simp; done) | (go_simp; rfl)); intro w35 hw; have hg : w33.grownBy w35 (some go6) := (by rw [hw]; exact HP34.2); have hp_ : Kd.R k23 23 w35 w.heap.size (fun k_ => k_ ≠ gb407) (.slice (some ⟨go6, 0, none⟩) y412.length co6) y418 := (by rw [hw, Ny418.out]; exact HP34.1); clear HP34; have n0_ := Aside0.mk (blk_grown (g := gb407) (o := .cells #[.int .i64 a0_0, .int .i64 a0_1, .int .i64 a0_2, .int .i64 a0_3, .int .i64 a0_4] 23 (0, 0)) (by (with_reducible repeat (first | refine blk_drewN ?_ _ | refine blk_drew ?_ | refine blk_alloc ?_ _)); exact BK407.out) hg (Kd.R_away HO414.out (fun _ hk => hk))); have n1_ := Aside0.mk (hp_); have n2_ := Aside0.mk ((by rw [hw]; exact below_set (HB.out) GB6.out : Below w.heap.size w w35)); clear BK407; clear HO414; clear HB; have BK407 := n0_; have HO414 := n1_; have HB := n2_; clear n0_ n1_ n2_; clear hg hw hp_; have hcz36_0 : w35.cell? ⟨gb407, 0, none⟩ = some (.int .i64 a0_0) := (blk_cell BK407.out 0).trans rfl; have hcz36_1 : w35.cell? ⟨gb407, 1, none⟩ = some (.int .i64 a0_1) := (blk_cell BK407.out 1).trans rfl; have hcz36_2 : w35.cell? ⟨gb407, 2, none⟩ = some (.int .i64 a0_2) := (blk_cell BK407.out 2).trans rfl; have hcz36_3 : w35.cell? ⟨gb407, 3, none⟩ = some (.int .i64 a0_3) := (blk_cell BK407.out 3).trans rfl; have hcz36_4 : w35.cell? ⟨gb407, 4, none⟩ = some (.int .i64 a0_4) := (blk_cell BK407.out 4).trans rfl; have hfz36_0 := blk_frozen BK407.out 0; have hfz36_1 := blk_frozen BK407.out 1; have hfz36_2 := blk_frozen BK407.out 2; have hfz36_3 := blk_frozen BK407.out 3; have hfz36_4 := blk_frozen BK407.out 4; have p14 : 0 ≤ (4 : Int) := (by omega); have q14 : (4 : Int) < ((y412.length : Int) : Int) := of_decide_eq_true (by first | (with_reducible assumption) | assumption); have qi14 : (4 < y412.length) = True := eq_true (by omega); obtain ⟨ce14, hcl14, hM14, hcc14, hfr14⟩ := Kd.R_elem HO414.out z23 (4 : Int) p14 q14; obtain rfl := k23_openM hM14; have hx14_0 : w35.cell? ⟨go6, (4 : Int).toNat * 5, none⟩ = some (.int .i64 ((rd_T23 y418 4).f0)) := hcc14 0 _ rfl; have hx14_1 : w35.cell? ⟨go6, (4 : Int).toNat * 5 + 1, none⟩ = some (.int .i64 ((rd_T23 y418 4).f1)) := hcc14 1 _ rfl; have hx14_2 : w35.cell? ⟨go6, (4 : Int).toNat * 5 + 2, none⟩ = some (.int .i64 ((rd_T23 y418 4).f2)) := hcc14 2 _ rfl; have hx14_3 : w35.cell? ⟨go6, (4 : Int).toNat * 5 + 3, none⟩ = some (.int .i64 ((rd_T23 y418 4).f3)) := hcc14 3 _ rfl; have hx14_4 : w35.cell? ⟨go6, (4 : Int).toNat * 5 + 4, none⟩ = some (.int .i64 ((rd_T23 y418 4).f4)) := hcc14 4 _ rfl; have hf14_0 : w35.frozen? ⟨go6, (4 : Int).toNat * 5, none⟩ = false := hfr14 0; have hf14_1 : w35.frozen? ⟨go6, (4 : Int).toNat * 5 + 1, none⟩ = false := hfr14 1; have hf14_2 : w35.frozen? ⟨go6, (4 : Int).toNat * 5 + 2, none⟩ = false := hfr14 2; have hf14_3 : w35.frozen? ⟨go6, (4 : Int).toNat * 5 + 3, none⟩ = false := hfr14 3; have hf14_4 : w35.frozen? ⟨go6, (4 : Int).toNat * 5 + 4, none⟩ = false := hfr14 4; clear hcl14 hcc14 hfr14 hM14; (try rw [show ((4 : Int)).toNat = 4 from rfl] at hx14_0); (try simp only [Nat.reduceMul, Nat.zero_mul, Nat.zero_add, Nat.reduceAdd] at hx14_0); (try rw [show ((4 : Int)).toNat = 4 from rfl] at hf14_0); (try simp only [Nat.reduceMul, Nat.zero_mul, Nat.zero_add, Nat.reduceAdd] at hf14_0); (try rw [show ((4 : Int)).toNat = 4 from rfl] at hx14_1); (try simp only [Nat.reduceMul, Nat.zero_mul, Nat.zero_add, Nat.reduceAdd] at hx14_1); (try rw [show ((4 : Int)).toNat = 4 from rfl] at hf14_1); (try simp only [Nat.reduceMul, Nat.zero_mul, Nat.zero_add, Nat.reduceAdd] at hf14_1); (try rw [show ((4 : Int)).toNat = 4 from rfl] at hx14_2); (try simp only [Nat.reduceMul, Nat.zero_mul, Nat.zero_add, Nat.reduceAdd] at hx14_2); (try rw [show ((4 : Int)).toNat = 4 from rfl] at hf14_2); (try simp only [Nat.reduceMul, Nat.zero_mul, Nat.zero_add, Nat.reduceAdd] at hf14_2); (try rw [show ((4 : Int)).toNat = 4 from rfl] at hx14_3); (try simp only [Nat.reduceMul, Nat.zero_mul, Nat.zero_add, Nat.reduceAdd] at hx14_3); (try rw [show ((4 : Int)).toNat = 4 from rfl] at hf14_3); (try simp only [Nat.reduceMul, Nat.zero_mul, Nat.zero_add, Nat.reduceAdd] at hf14_3); (try rw [show ((4 : Int)).toNat = 4 from rfl] at hx14_4); (try simp only [Nat.reduceMul, Nat.zero_mul, Nat.zero_add, Nat.reduceAdd] at hx14_4); (try rw [show ((4 : Int)).toNat = 4 from rfl] at hf14_4); (try simp only [Nat.reduceMul, Nat.zero_mul, Nat.zero_add, Nat.reduceAdd] at hf14_4); replace p14 := eq_true p14; replace q14 := eq_true q14; have HX37 := Aside0.mk (show Kd.R k23 23 w35 w.heap.size (fun k_ => k_ ≠ gb407) (.slice (some ⟨go6, 0, none⟩) y412.length co6) y418 from (by (with_reducible repeat (first | apply Kd.R_alloc | apply Kd.R_drewN | apply Kd.R_drew)); exact HO414.out)); obtain ⟨ce37, hcl37, hM37, hcc37, hfr37⟩ := Kd.R_elem HX37.out z23 (4 : Int) (by omega) (by have h_ : (4 : Int) < ((y412.length : Int) : Int) := of_decide_eq_true (by first | (with_reducible assumption) | assumption); first | exact h_ | (have e_ := (Kd.R_reads' HO414.out).1; omega) | simpa using h_); obtain rfl := k23_openM hM37; have HP37 := Kd.R_seg HX37.out (4 : Int) (by omega) (by have h_ : (4 : Int) < ((y412.length : Int) : Int) := of_decide_eq_true (by first | (with_reducible assumption) | assumption); first | exact h_ | (have e_ := (Kd.R_reads' HO414.out).1; omega) | simpa using h_) (seg := [.int .i64 (wrap64 (a0_1 + (Int.tmod (wrap64 (a1)) 9)))]) (j := 2) hcl37 hcc37 (show 3 ≤ 5 from by decide) (x' := (⟨(rd_T23 y418 4).f0, (rd_T23 y418 4).f1, wrap64 (a0_1 + (Int.tmod (wrap64 (a1)) 9)), (rd_T23 y418 4).f3, (rd_T23 y418 4).f4⟩ : S23)) (k23_mkM _ _ _ (⟨(rd_T23 y418 4).f0, (rd_T23 y418 4).f1, wrap64 (a0_1 + (Int.tmod (wrap64 (a1)) 9)), (rd_T23 y418 4).f3, (rd_T23 y418 4).f4⟩ : S23) ) (fun _ hk => hk); have hx37_2 := hcc37 2 _ rfl; (try simp only [show (k23).sz = 5 from rfl, Nat.mul_one, Nat.add_zero] at hx37_2); (try rw [show ((4 : Int)).toNat = 4 from rfl] at hx37_2); (try simp only [Nat.reduceMul, Nat.zero_mul, Nat.zero_add, Nat.reduceAdd] at hx37_2); have hf37_2 := hfr37 2; (try simp only [show (k23).sz = 5 from rfl, Nat.mul_one, Nat.add_zero] at hf37_2); (try rw [show ((4 : Int)).toNat = 4 from rfl] at hf37_2); (try simp only [Nat.reduceMul, Nat.zero_mul, Nat.zero_add, Nat.reduceAdd] at hf37_2); clear hcl37 hcc37 hfr37 hM37) | ((with_reducible refine gate_store (t := 3) (p := 70) rfl ?_); refine store_event (t := 3) (p := 70) (v := ?vo_w38) (w1 := (w35.setCell ⟨go6, 22, none⟩ (.int .i64 (wrap64 (a0_1 + (Int.tmod (wrap64 (a1)) 9)))))) ?hg ?ho ?hn ?hr ?_; (case ho => rfl); (case hg => rfl); (case hn => rfl); (case hr => first | (go_simp; done) | (go_simp; rfl)); intro w38 hw; have hg : w35.grownBy w38 (some go6) := (by rw [hw]; exact HP37.2); have hp_ : Kd.R k23 23 w38 w.heap.size (fun k_ => k_ ≠ gb407) (.slice (some ⟨go6, 0, none⟩) y412.length co6) y419 := (by rw [hw, Ny419.out]; exact HP37.1); clear HP37; have n0_ := Aside0.mk (blk_grown (g := gb407) (o := .cells #[.int .i64 a0_0, .int .i64 a0_1, .int .i64 a0_2, .int .i64 a0_3, .int .i64 a0_4] 23 (0, 0)) (by (with_reducible repeat (first | refine blk_drewN ?_ _ | refine blk_drew ?_ | refine blk_alloc ?_ _)); exact BK407.out) hg (Kd.R_away HO414.out (fun _ hk => hk))); have n1_ := Aside0.mk (hp_); have n2_ := Aside0.mk ((by rw [hw]; exact below_set (HB.out) GB6.out : Below w.heap.size w w38)); clear BK407; clear HO414; clear HB; have BK407 := n0_; have HO414 := n1_; have HB := n2_; clear n0_ n1_ n2_; clear hg hw hp_; have p16 : 0 ≤ (5 : Int) := (by omega); have q16 : (5 : Int) < ((y412.length : Int) : Int) := of_decide_eq_true (by first | (with_reducible assumption) | assumption); have qi16 : (5 < y412.length) = True := eq_true (by omega); obtain ⟨ce16, hcl16, hM16, hcc16, hfr16⟩ := Kd.R_elem HO414.out z23 (5 : Int) p16 q16; obtain rfl := k23_openM hM16; have hx16_0 : w38.cell? ⟨go6, (5 : Int).toNat * 5, none⟩ = some (.int .i64 ((rd_T23 y419 5).f0)) := hcc16 0 _ rfl; have hx16_1 : w38.cell? ⟨go6, (5 : Int).toNat * 5 + 1, none⟩ = some (.int .i64 ((rd_T23 y419 5).f1)) := hcc16 1 _ rfl; have hx16_2 : w38.cell? ⟨go6, (5 : Int).toNat * 5 + 2, none⟩ = some (.int .i64 ((rd_T23 y419 5).f2)) := hcc16 2 _ rfl; have hx16_3 : w38.cell? ⟨go6, (5 : Int).toNat * 5 + 3, none⟩ = some (.int .i64 ((rd_T23 y419 5).f3)) := hcc16 3 _ rfl; have hx16_4 : w38.cell? ⟨go6, (5 : Int).toNat * 5 + 4, none⟩ = some (.int .i64 ((rd_T23 y419 5).f4)) := hcc16 4 _ rfl; have hf16_0 : w38.frozen? ⟨go6, (5 : Int).toNat * 5, none⟩ = false := hfr16 0; have hf16_1 : w38.frozen? ⟨go6, (5 : Int).toNat * 5 + 1, none⟩ = false := hfr16 1; have hf16_2 : w38.frozen? ⟨go6, (5 : Int).toNat * 5 + 2, none⟩ = false := hfr16 2; have hf16_3 : w38.frozen? ⟨go6, (5 : Int).toNat * 5 + 3, none⟩ = false := hfr16 3; have hf16_4 : w38.frozen? ⟨go6, (5 : Int).toNat * 5 + 4, none⟩ = false := hfr16 4; clear hcl16 hcc16 hfr16 hM16; (try rw [show ((5 : Int)).toNat = 5 from rfl] at hx16_0); (try simp only [Nat.reduceMul, Nat.zero_mul, Nat.zero_add, Nat.reduceAdd] at hx16_0); (try rw [show ((5 : Int)).toNat = 5 from rfl] at hf16_0); (try simp only [Nat.reduceMul, Nat.zero_mul, Nat.zero_add, Nat.reduceAdd] at hf16_0); (try rw [show ((5 : Int)).toNat = 5 from rfl] at hx16_1); (try simp only [Nat.reduceMul, Nat.zero_mul, Nat.zero_add, Nat.reduceAdd] at hx16_1); (try rw [show ((5 : Int)).toNat = 5 from rfl] at hf16_1); (try simp only [Nat.reduceMul, Nat.zero_mul, Nat.zero_add, Nat.reduceAdd] at hf16_1); (try rw [show ((5 : Int)).toNat = 5 from rfl] at hx16_2); (try simp only [Nat.reduceMul, Nat.zero_mul, Nat.zero_add, Nat.reduceAdd] at hx16_2); (try rw [show ((5 : Int)).toNat = 5 from rfl] at hf16_2); (try simp only [Nat.reduceMul, Nat.zero_mul, Nat.zero_add, Nat.reduceAdd] at hf16_2); (try rw [show ((5 : Int)).toNat = 5 from rfl] at hx16_3); (try simp only [Nat.reduceMul, Nat.zero_mul, Nat.zero_add, Nat.reduceAdd] at hx16_3); (try rw [show ((5 : Int)).toNat = 5 from rfl] at hf16_3); (try simp only [Nat.reduceMul, Nat.zero_mul, Nat.zero_add, Nat.reduceAdd] at hf16_3); (try rw [show ((5 : Int)).toNat = 5 from rfl] at hx16_4); (try simp only [Nat.reduceMul, Nat.zero_mul, Nat.zero_add, Nat.reduceAdd] at hx16_4); (try rw [show ((5 : Int)).toNat = 5 from rfl] at hf16_4); (try simp only [Nat.reduceMul, Nat.zero_mul, Nat.zero_add, Nat.reduceAdd] at hf16_4); replace p16 := eq_true p16; replace q16 := eq_true q16; have HX39 := Aside0.mk (show Kd.R k23 23 w38 w.heap.size (fun k_ => k_ ≠ gb407) (.slice (some ⟨go6, 0, none⟩) y412.length co6) y419 from (by (with_reducible repeat (first | apply Kd.R_alloc | apply Kd.R_drewN | apply Kd.R_drew)); exact HO414.out)); obtain ⟨ce39, hcl39, hM39, hcc39, hfr39⟩ := Kd.R_elem HX39.out z23 (5 : Int) (by omega) (by have h_ : (5 : Int) < ((y412.length : Int) : Int) := of_decide_eq_true (by first | (with_reducible assumption) | assumption); first | exact h_ | (have e_ := (Kd.R_reads' HO414.out).1; omega) | simpa using h_); obtain rfl := k23_openM hM39; have HP39 := Kd.R_seg HX39.out (5 : Int) (by omega) (by have h_ : (5 : Int) < ((y412.length : Int) : Int) := of_decide_eq_true (by first | (with_reducible assumption) | assumption); first | exact h_ | (have e_ := (Kd.R_reads' HO414.out).1; omega) | simpa using h_) (seg := [.int .i64 (wrap64 (256 + (Int.tmod (wrap64 (a1)) 9)))]) (j := 3) hcl39 hcc39 (show 4 ≤ 5 from by decide) (x' := (⟨(rd_T23 y419 5).f0, (rd_T23 y419 5).f1, (rd_T23 y419 5).f2, wrap64 (256 + (Int.tmod (wrap64 (a1)) 9)), (rd_T23 y419 5).f4⟩ : S23)) (k23_mkM _ _ _ (⟨(rd_T23 y419 5).f0, (rd_T23 y419 5).f1, (rd_T23 y419 5).f2, wrap64 (256 + (Int.tmod (wrap64 (a1)) 9)), (rd_T23 y419 5).f4⟩ : S23) ) (fun _ hk => hk); have hx39_3 := hcc39 3 _ rfl; (try simp only [show (k23).sz = 5 from rfl, Nat.mul_one, Nat.add_zero] at hx39_3); (try rw [show ((5 : Int)).toNat = 5 from rfl] at hx39_3); (try simp only [Nat.reduceMul, Nat.zero_mul, Nat.zero_add, Nat.reduceAdd] at hx39_3); have hf39_3 := hfr39 3; (try simp only [show (k23).sz = 5 from rfl, Nat.mul_one, Nat.add_zero] at hf39_3); (try rw [show ((5 : Int)).toNat = 5 from rfl] at hf39_3); (try simp only [Nat.reduceMul, Nat.zero_mul, Nat.zero_add, Nat.reduceAdd] at hf39_3); clear hcl39 hcc39 hfr39 hM39) | ((with_reducible refine gate_store (t := 3) (p := 75) rfl ?_); refine store_event (t := 3) (p := 75) (v := ?vo_w40) (w1 := (w38.setCell ⟨go6, 28, none⟩ (.int .i64 (wrap64 (256 + (Int.tmod (wrap64 (a1)) 9)))))) ?hg ?ho ?hn ?hr ?_; (case ho => rfl); (case hg => rfl); (case hn => rfl); (case hr => first | (go_simp; done) | (go_simp; rfl)); intro w40 hw; have hg : w38.grownBy w40 (some go6) := (by rw [hw]; exact HP39.2); have hp_ : Kd.R k23 23 w40 w.heap.size (fun k_ => k_ ≠ gb407) (.slice (some ⟨go6, 0, none⟩) y412.length co6) y420 := (by rw [hw, Ny420.out]; exact HP39.1); clear HP39; have n0_ := Aside0.mk (blk_grown (g := gb407) (o := .cells #[.int .i64 a0_0, .int .i64 a0_1, .int .i64 a0_2, .int .i64 a0_3, .int .i64 a0_4] 23 (0, 0)) (by (with_reducible repeat (first | refine blk_drewN ?_ _ | refine blk_drew ?_ | refine blk_alloc ?_ _)); exact BK407.out) hg (Kd.R_away HO414.out (fun _ hk => hk))); have n1_ := Aside0.mk (hp_); have n2_ := Aside0.mk ((by rw [hw]; exact below_set (HB.out) GB6.out : Below w.heap.size w w40)); clear BK407; clear HO414; clear HB; have BK407 := n0_; have HO414 := n1_; have HB := n2_; clear n0_ n1_ n2_; clear hg hw hp_; have p18 : 0 ≤ (6 : Int) := (by omega); have q18 : (6 : Int) < ((y412.length : Int) : Int) := of_decide_eq_true (by first | (with_reducible assumption) | assumption); have qi18 : (6 < y412.length) = True := eq_true (by omega); obtain ⟨ce18, hcl18, hM18, hcc18, hfr18⟩ := Kd.R_elem HO414.out z23 (6 : Int) p18 q18; obtain rfl := k23_openM hM18; have hx18_0 : w40.cell? ⟨go6, (6 : Int).toNat * 5, none⟩ = some (.int .i64 ((rd_T23 y420 6).f0)) := hcc18 0 _ rfl; have hx18_1 : w40.cell? ⟨go6, (6 : Int).toNat * 5 + 1, none⟩ = some (.int .i64 ((rd_T23 y420 6).f1)) := hcc18 1 _ rfl; have hx18_2 : w40.cell? ⟨go6, (6 : Int).toNat * 5 + 2, none⟩ = some (.int .i64 ((rd_T23 y420 6).f2)) := hcc18 2 _ rfl; have hx18_3 : w40.cell? ⟨go6, (6 : Int).toNat * 5 + 3, none⟩ = some (.int .i64 ((rd_T23 y420 6).f3)) := hcc18 3 _ rfl; have hx18_4 : w40.cell? ⟨go6, (6 : Int).toNat * 5 + 4, none⟩ = some (.int .i64 ((rd_T23 y420 6).f4)) := hcc18 4 _ rfl; have hf18_0 : w40.frozen? ⟨go6, (6 : Int).toNat * 5, none⟩ = false := hfr18 0; have hf18_1 : w40.frozen? ⟨go6, (6 : Int).toNat * 5 + 1, none⟩ = false := hfr18 1; have hf18_2 : w40.frozen? ⟨go6, (6 : Int).toNat * 5 + 2, none⟩ = false := hfr18 2; have hf18_3 : w40.frozen? ⟨go6, (6 : Int).toNat * 5 + 3, none⟩ = false := hfr18 3; have hf18_4 : w40.frozen? ⟨go6, (6 : Int).toNat * 5 + 4, none⟩ = false := hfr18 4; clear hcl18 hcc18 hfr18 hM18; (try rw [show ((6 : Int)).toNat = 6 from rfl] at hx18_0); (try simp only [Nat.reduceMul, Nat.zero_mul, Nat.zero_add, Nat.reduceAdd] at hx18_0); (try rw [show ((6 : Int)).toNat = 6 from rfl] at hf18_0); (try simp only [Nat.reduceMul, Nat.zero_mul, Nat.zero_add, Nat.reduceAdd] at hf18_0); (try rw [show ((6 : Int)).toNat = 6 from rfl] at hx18_1); (try simp only [Nat.reduceMul, Nat.zero_mul, Nat.zero_add, Nat.reduceAdd] at hx18_1); (try rw [show ((6 : Int)).toNat = 6 from rfl] at hf18_1); (try simp only [Nat.reduceMul, Nat.zero_mul, Nat.zero_add, Nat.reduceAdd] at hf18_1); (try rw [show ((6 : Int)).toNat = 6 from rfl] at hx18_2); (try simp only [Nat.reduceMul, Nat.zero_mul, Nat.zero_add, Nat.reduceAdd] at hx18_2); (try rw [show ((6 : Int)).toNat = 6 from rfl] at hf18_2); (try simp only [Nat.reduceMul, Nat.zero_mul, Nat.zero_add, Nat.reduceAdd] at hf18_2); (try rw [show ((6 : Int)).toNat = 6 from rfl] at hx18_3); (try simp only [Nat.reduceMul, Nat.zero_mul, Nat.zero_add, Nat.reduceAdd] at hx18_3); (try rw [show ((6 : Int)).toNat = 6 from rfl] at hf18_3); (try simp only [Nat.reduceMul, Nat.zero_mul, Nat.zero_add, Nat.reduceAdd] at hf18_3); (try rw [show ((6 : Int)).toNat = 6 from rfl] at hx18_4); (try simp only [Nat.reduceMul, Nat.zero_mul, Nat.zero_add, Nat.reduceAdd] at hx18_4); (try rw [show ((6 : Int)).toNat = 6 from rfl] at hf18_4); (try simp only [Nat.reduceMul, Nat.zero_mul, Nat.zero_add, Nat.reduceAdd] at hf18_4); replace p18 := eq_true p18; replace q18 := eq_true q18; have HX41 := Aside0.mk (show Kd.R k23 23 w40 w.heap.size (fun k_ => k_ ≠ gb407) (.slice (some ⟨go6, 0, none⟩) y412.length co6) y420 from (by (with_reducible repeat (first | apply Kd.R_alloc | apply Kd.R_drewN | apply Kd.R_drew)); exact HO414.out)); obtain ⟨ce41, hcl41, hM41, hcc41, hfr41⟩ := Kd.R_elem HX41.out z23 (6 : Int) (by omega) (by have h_ : (6 : Int) < ((y412.length : Int) : Int) := of_decide_eq_true (by first | (with_reducible assumption) | assumption); first | exact h_ | (have e_ := (Kd.R_reads' HO414.out).1; omega) | simpa using h_); obtain rfl := k23_openM hM41; have HP41 := Kd.R_seg HX41.out (6 : Int) (by omega) (by have h_ : (6 : Int) < ((y412.length : Int) : Int) := of_decide_eq_true (by first | (with_reducible assumption) | assumption); first | exact h_ | (have e_ := (Kd.R_reads' HO414.out).1; omega) | simpa using h_) (seg := [.int .i64 (wrap64 ((-1) - (Int.tmod (wrap64 (a1)) 9)))]) (j := 3) hcl41 hcc41 (show 4 ≤ 5 from by decide) (x' := (⟨(rd_T23 y420 6).f0, (rd_T23 y420 6).f1, (rd_T23 y420 6).f2, wrap64 ((-1) - (Int.tmod (wrap64 (a1)) 9)), (rd_T23 y420 6).f4⟩ : S23)) (k23_mkM _ _ _ (⟨(rd_T23 y420 6).f0, (rd_T23 y420 6).f1, (rd_T23 y420 6).f2, wrap64 ((-1) - (Int.tmod (wrap64 (a1)) 9)), (rd_T23 y420 6).f4⟩ : S23) ) (fun _ hk => hk); have hx41_3 := hcc41 3 _ rfl; (try simp only [show (k23).sz = 5 from rfl, Nat.mul_one, Nat.add_zero] at hx41_3); (try rw [show ((6 : Int)).toNat = 6 from rfl] at hx41_3); (try simp only [Nat.reduceMul, Nat.zero_mul, Nat.zero_add, Nat.reduceAdd] at hx41_3); have hf41_3 := hfr41 3; (try simp only [show (k23).sz = 5 from rfl, Nat.mul_one, Nat.add_zero] at hf41_3); (try rw [show ((6 : Int)).toNat = 6 from rfl] at hf41_3); (try simp only [Nat.reduceMul, Nat.zero_mul, Nat.zero_add, Nat.reduceAdd] at hf41_3); clear hcl41 hcc41 hfr41 hM41) | ((with_reducible refine gate_store (t := 3) (p := 80) rfl ?_); refine store_event (t := 3) (p := 80) (v := ?vo_w42) (w1 := (w40.setCell ⟨go6, 33, none⟩ (.int .i64 (wrap64 ((-1) - (Int.tmod (wrap64 (a1)) 9)))))) ?hg ?ho ?hn ?hr ?_; (case ho => rfl); (case hg => rfl); (case hn => rfl); (case hr => first | (go_simp; done) | (go_simp; rfl)); intro w42 hw; have hg : w40.grownBy w42 (some go6) := (by rw [hw]; exact HP41.2); have hp_ : Kd.R k23 23 w42 w.heap.size (fun k_ => k_ ≠ gb407) (.slice (some ⟨go6, 0, none⟩) y412.length co6) y421 := (by rw [hw, Ny421.out]; exact HP41.1); clear HP41; have n0_ := Aside0.mk (blk_grown (g := gb407) (o := .cells #[.int .i64 a0_0, .int .i64 a0_1, .int .i64 a0_2, .int .i64 a0_3, .int .i64 a0_4] 23 (0, 0)) (by (with_reducible repeat (first | refine blk_drewN ?_ _ | refine blk_drew ?_ | refine blk_alloc ?_ _)); exact BK407.out) hg (Kd.R_away HO414.out (fun _ hk => hk))); have n1_ := Aside0.mk (hp_); have n2_ := Aside0.mk ((by rw [hw]; exact below_set (HB.out) GB6.out : Below w.heap.size w w42)); clear BK407; clear HO414; clear HB; have BK407 := n0_; have HO414 := n1_; have HB := n2_; clear n0_ n1_ n2_; clear hg hw hp_; have p20 : 0 ≤ (7 : Int) := (by omega); have q20 : (7 : Int) < ((y412.length : Int) : Int) := of_decide_eq_true (by first | (with_reducible assumption) | assumption); have qi20 : (7 < y412.length) = True := eq_true (by omega); obtain ⟨ce20, hcl20, hM20, hcc20, hfr20⟩ := Kd.R_elem HO414.out z23 (7 : Int) p20 q20; obtain rfl := k23_openM hM20; have hx20_0 : w42.cell? ⟨go6, (7 : Int).toNat * 5, none⟩ = some (.int .i64 ((rd_T23 y421 7).f0)) := hcc20 0 _ rfl; have hx20_1 : w42.cell? ⟨go6, (7 : Int).toNat * 5 + 1, none⟩ = some (.int .i64 ((rd_T23 y421 7).f1)) := hcc20 1 _ rfl; have hx20_2 : w42.cell? ⟨go6, (7 : Int).toNat * 5 + 2, none⟩ = some (.int .i64 ((rd_T23 y421 7).f2)) := hcc20 2 _ rfl; have hx20_3 : w42.cell? ⟨go6, (7 : Int).toNat * 5 + 3, none⟩ = some (.int .i64 ((rd_T23 y421 7).f3)) := hcc20 3 _ rfl; have hx20_4 : w42.cell? ⟨go6, (7 : Int).toNat * 5 + 4, none⟩ = some (.int .i64 ((rd_T23 y421 7).f4)) := hcc20 4 _ rfl; have hf20_0 : w42.frozen? ⟨go6, (7 : Int).toNat * 5, none⟩ = false := hfr20 0; have hf20_1 : w42.frozen? ⟨go6, (7 : Int).toNat * 5 + 1, none⟩ = false := hfr20 1; have hf20_2 : w42.frozen? ⟨go6, (7 : Int).toNat * 5 + 2, none⟩ = false := hfr20 2; have hf20_3 : w42.frozen? ⟨go6, (7 : Int).toNat * 5 + 3, none⟩ = false := hfr20 3; have hf20_4 : w42.frozen? ⟨go6, (7 : Int).toNat * 5 + 4, none⟩ = false := hfr20 4; clear hcl20 hcc20 hfr20 hM20; (try rw [show ((7 : Int)).toNat = 7 from rfl] at hx20_0); (try simp only [Nat.reduceMul, Nat.zero_mul, Nat.zero_add, Nat.reduceAdd] at hx20_0); (try rw [show ((7 : Int)).toNat = 7 from rfl] at hf20_0); (try simp only [Nat.reduceMul, Nat.zero_mul, Nat.zero_add, Nat.reduceAdd] at hf20_0); (try rw [show ((7 : Int)).toNat = 7 from rfl] at hx20_1); (try simp only [Nat.reduceMul, Nat.zero_mul, Nat.zero_add, Nat.reduceAdd] at hx20_1); (try rw [show ((7 : Int)).toNat = 7 from rfl] at hf20_1); (try simp only [Nat.reduceMul, Nat.zero_mul, Nat.zero_add, Nat.reduceAdd] at hf20_1); (try rw [show ((7 : Int)).toNat = 7 from rfl] at hx20_2); (try simp only [Nat.reduceMul, Nat.zero_mul, Nat.zero_add, Nat.reduceAdd] at hx20_2); (try rw [show ((7 : Int)).toNat = 7 from rfl] at hf20_2); (try simp only [Nat.reduceMul, Nat.zero_mul, Nat.zero_add, Nat.reduceAdd] at hf20_2); (try rw [show ((7 : Int)).toNat = 7 from rfl] at hx20_3); (try simp only [Nat.reduceMul, Nat.zero_mul, Nat.zero_add, Nat.reduceAdd] at hx20_3); (try rw [show ((7 : Int)).toNat = 7 from rfl] at hf20_3); (try simp only [Nat.reduceMul, Nat.zero_mul, Nat.zero_add, Nat.reduceAdd] at hf20_3); (try rw [show ((7 : Int)).toNat = 7 from rfl] at hx20_4); (try simp only [Nat.reduceMul, Nat.zero_mul, Nat.zero_add, Nat.reduceAdd] at hx20_4); (try rw [show ((7 : Int)).toNat = 7 from rfl] at hf20_4); (try simp only [Nat.reduceMul, Nat.zero_mul, Nat.zero_add, Nat.reduceAdd] at hf20_4); replace p20 := eq_true p20; replace q20 := eq_true q20; have HX43 := Aside0.mk (show Kd.R k23 23 w42 w.heap.size (fun k_ => k_ ≠ gb407) (.slice (some ⟨go6, 0, none⟩) y412.length co6) y421 from (by (with_reducible repeat (first | apply Kd.R_alloc | apply Kd.R_drewN | apply Kd.R_drew)); exact HO414.out)); obtain ⟨ce43, hcl43, hM43, hcc43, hfr43⟩ := Kd.R_elem HX43.out z23 (7 : Int) (by omega) (by have h_ : (7 : Int) < ((y412.length : Int) : Int) := of_decide_eq_true (by first | (with_reducible assumption) | assumption); first | exact h_ | (have e_ := (Kd.R_reads' HO414.out).1; omega) | simpa using h_); obtain rfl := k23_openM hM43; have HP43 := Kd.R_seg HX43.out (7 : Int) (by omega) (by have h_ : (7 : Int) < ((y412.length : Int) : Int) := of_decide_eq_true (by first | (with_reducible assumption) | assumption); first | exact h_ | (have e_ := (Kd.R_reads' HO414.out).1; omega) | simpa using h_) (seg := [.int .i64 (wrap64 ((-1) - (Int.tmod (wrap64 (a1)) 9)))]) (j := 4) hcl43 hcc43 (show 5 ≤ 5 from by decide) (x' := (⟨(rd_T23 y421 7).f0, (rd_T23 y421 7).f1, (rd_T23 y421 7).f2, (rd_T23 y421 7).f3, wrap64 ((-1) - (Int.tmod (wrap64 (a1)) 9))⟩ : S23)) (k23_mkM _ _ _ (⟨(rd_T23 y421 7).f0, (rd_T23 y421 7).f1, (rd_T23 y421 7).f2, (rd_T23 y421 7).f3, wrap64 ((-1) - (Int.tmod (wrap64 (a1)) 9))⟩ : S23) ) (fun _ hk => hk); have hx43_4 := hcc43 4 _ rfl; (try simp only [show (k23).sz = 5 from rfl, Nat.mul_one, Nat.add_zero] at hx43_4); (try rw [show ((7 : Int)).toNat = 7 from rfl] at hx43_4); (try simp only [Nat.reduceMul, Nat.zero_mul, Nat.zero_add, Nat.reduceAdd] at hx43_4); have hf43_4 := hfr43 4; (try simp only [show (k23).sz = 5 from rfl, Nat.mul_one, Nat.add_zero] at hf43_4); (try rw [show ((7 : Int)).toNat = 7 from rfl] at hf43_4); (try simp only [Nat.reduceMul, Nat.zero_mul, Nat.zero_add, Nat.reduceAdd] at hf43_4); clear hcl43 hcc43 hfr43 hM43) | ((with_reducible refine gate_store (t := 3) (p := 85) rfl ?_); refine store_event (t := 3) (p := 85) (v := ?vo_w44) (w1 := (w42.setCell ⟨go6, 39, none⟩ (.int .i64 (wrap64 ((-1) - (Int.tmod (wrap64 (a1)) 9)))))) ?hg ?ho ?hn ?hr ?_; (case ho => rfl); (case hg => rfl); (case hn => rfl); (case hr => first | (go_simp; done) | (go_simp; rfl)); intro w44 hw; have hg : w42.grownBy w44 (some go6) := (by rw [hw]; exact HP43.2); have hp_ : Kd.R k23 23 w44 w.heap.size (fun k_ => k_ ≠ gb407) (.slice (some ⟨go6, 0, none⟩) y412.length co6) y422 := (by rw [hw, Ny422.out]; exact HP43.1); clear HP43; have n0_ := Aside0.mk (blk_grown (g := gb407) (o := .cells #[.int .i64 a0_0, .int .i64 a0_1, .int .i64 a0_2, .int .i64 a0_3, .int .i64 a0_4] 23 (0, 0)) (by (with_reducible repeat (first | refine blk_drewN ?_ _ | refine blk_drew ?_ | refine blk_alloc ?_ _)); exact BK407.out) hg (Kd.R_away HO414.out (fun _ hk => hk))); have n1_ := Aside0.mk (hp_); have n2_ := Aside0.mk ((by rw [hw]; exact below_set (HB.out) GB6.out : Below w.heap.size w w44)); clear BK407; clear HO414; clear HB; have BK407 := n0_; have HO414 := n1_; have HB := n2_; clear n0_ n1_ n2_; clear hg hw hp_))
          go_loopg [9] k (fun kq v9 w' => ∃ (x9_1 : Int), v9 = .int .i64 x9_1 ∧ Aside0 (withylaw13_MetaEach.l0 kq y422 x9_1 a0_0 a0_1 a0_2 a0_3 a0_4 = some r) ∧ Aside0 (kq ≤ k) ∧ Aside0 (Kd.R k23 23 w' w.heap.size (fun k_ => k_ ≠ gb407) (.slice (some ⟨go6, 0, none⟩) y412.length co6) y422) ∧ Aside0 (w'.heap[gb407]? = some (.cells #[.int .i64 a0_0, .int .i64 a0_1, .int .i64 a0_2, .int .i64 a0_3, .int .i64 a0_4] 23 (0, 0))) ∧ Aside0 (Below w.heap.size w w'))
          case atStart => exact ⟨(0), (by first | rfl | (simp; done) | (simp [*]; done)), H', ⟨Nat.le_refl _⟩, ⟨by (with_reducible repeat (first | apply Kd.R_alloc | apply Kd.R_drewN | apply Kd.R_drew)); exact HO414.out⟩, ⟨by (with_reducible repeat (first | refine blk_drewN ?_ _ | refine blk_drew ?_ | refine blk_alloc ?_ _)); exact BK407.out⟩, ⟨by repeat (first | (with_reducible first | exact HB.out | apply below_alloc | apply pw_below_drewN | apply below_drew1 | refine below_set ?_ GE407.out) | exact HB.out)⟩⟩
          case round =>
           clear H'
           try clear c1
           try clear p1
           try clear q1
           try clear hx1
           try clear qi1
           try clear c2
           try clear p2
           try clear q2
           try clear hx2
           try clear qi2
           try clear hf2
           try clear c3
           try clear hx3
           try clear hf3
           try clear c4
           try clear hx4
           try clear hf4
           try clear c5
           try clear c5b0
           try clear c5b1
           try clear c6
           try clear p6
           try clear q6
           try clear hx6
           try clear qi6
           try clear hf6
           try clear c7
           try clear c7b0
           try clear c7b1
           try clear c8
           try clear p8
           try clear q8
           try clear hx8
           try clear qi8
           try clear hf8
           try clear c9
           try clear c9b0
           try clear c9b1
           try clear c10
           try clear p10
           try clear q10
           try clear hx10
           try clear qi10
           try clear hf10
           try clear c11
           try clear c11b0
           try clear c11b1
           try clear c12
           try clear p12
           try clear q12
           try clear hx12
           try clear qi12
           try clear hf12
           try clear c13
           try clear c13b0
           try clear c13b1
           try clear c14
           try clear p14
           try clear q14
           try clear hx14
           try clear qi14
           try clear hf14
           try clear c15
           try clear c15b0
           try clear c15b1
           try clear c16
           try clear p16
           try clear q16
           try clear hx16
           try clear qi16
           try clear hf16
           try clear c17
           try clear c17b0
           try clear c17b1
           try clear c18
           try clear p18
           try clear q18
           try clear hx18
           try clear qi18
           try clear hf18
           try clear c19
           try clear c19b0
           try clear c19b1
           try clear c20
           try clear p20
           try clear q20
           try clear hx20
           try clear qi20
           try clear hf20
           try clear c28
           try clear hx28
           try clear hf28
           try clear c30
           try clear hx30
           try clear hf30
           try clear c32
           try clear hx32
           try clear hf32
           try clear c34
           try clear hx34
           try clear hf34
           try clear c37
           try clear hx37
           try clear hf37
           try clear c39
           try clear hx39
           try clear hf39
           try clear c41
           try clear hx41
           try clear hf41
           try clear c43
           try clear hx43
           try clear hf43
           try clear hcz22_0
           try clear hcz22_1
           try clear hcz22_2
           try clear hcz22_3
           try clear hcz22_4
           try clear hcz24_0
           try clear hcz24_1
           try clear hcz24_2
           try clear hcz24_3
           try clear hcz24_4
           try clear hcz27_0
           try clear hcz27_1
           try clear hcz27_2
           try clear hcz27_3
           try clear hcz27_4
           try clear hcz36_0
           try clear hcz36_1
           try clear hcz36_2
           try clear hcz36_3
           try clear hcz36_4
           try clear hfz22_0
           try clear hfz22_1
           try clear hfz22_2
           try clear hfz22_3
           try clear hfz22_4
           try clear hfz24_0
           try clear hfz24_1
           try clear hfz24_2
           try clear hfz24_3
           try clear hfz24_4
           try clear hfz27_0
           try clear hfz27_1
           try clear hfz27_2
           try clear hfz27_3
           try clear hfz27_4
           try clear hfz36_0
           try clear hfz36_1
           try clear hfz36_2
           try clear hfz36_3
           try clear hfz36_4
           try clear hx10_0
           try clear hx10_1
           try clear hx10_2
           try clear hx10_3
           try clear hx10_4
           try clear hx12_0
           try clear hx12_1
           try clear hx12_2
           try clear hx12_3
           try clear hx12_4
           try clear hx14_0
           try clear hx14_1
           try clear hx14_2
           try clear hx14_3
           try clear hx14_4
           try clear hx16_0
           try clear hx16_1
           try clear hx16_2
           try clear hx16_3
           try clear hx16_4
           try clear hx18_0
           try clear hx18_1
           try clear hx18_2
           try clear hx18_3
           try clear hx18_4
           try clear hx20_0
           try clear hx20_1
           try clear hx20_2
           try clear hx20_3
           try clear hx20_4
           try clear hx28_0
           try clear hx30_1
           try clear hx32_1
           try clear hx34_2
           try clear hx37_2
           try clear hx39_3
           try clear hx41_3
           try clear hx43_4
           try clear hx6_0
           try clear hx6_1
           try clear hx6_2
           try clear hx6_3
           try clear hx6_4
           try clear hx8_0
           try clear hx8_1
           try clear hx8_2
           try clear hx8_3
           try clear hx8_4
           try clear p10
           try clear p12
           try clear p14
           try clear p16
           try clear p18
           try clear p20
           try clear p6
           try clear p8
           try clear q10
           try clear q12
           try clear q14
           try clear q16
           try clear q18
           try clear q20
           try clear q6
           try clear q8
           obtain ⟨x9_1, rfl, HA, HK1, HO_7, BK407, HB⟩ := hrel
           have hl7_1 := (Kd.R_reads' HO_7.out).1
           rw [hl7_1] at HO_7
           (try simp only [hl7_1])
           (try simp only [hl7_1] at BK407)
           cases gk with
           | zero => exact absurd HA.out (by simp [withylaw13_MetaEach.l0])
           | succ k1 =>
            have H := HA.out
            clear HA
            simp only [withylaw13_MetaEach.l0] at H
            by_cases c45 : x9_1 < (y422.length : Int)
            ·
             rw [if_pos c45] at H
             have c45b0 : decide (x9_1 < (y422.length : Int)) = true := decide_eq_true c45
             clear c45
             by_cases c46 : 0 ≤ x9_1
             ·
              rw [if_pos c46] at H
              have c46b0 : decide (0 ≤ x9_1) = true := decide_eq_true c46
              clear c46
              replace H := Option.bind_eq_some_iff.mp H
              obtain ⟨⟨t426, t427⟩, A470, H⟩ := H
              replace H : (if t427 = 3 then (if t426.toList = ([] : List UInt8) then ((meta_May.f ((rd_T23 y422 x9_1).f0) ((rd_T23 y422 x9_1).f1) ((rd_T23 y422 x9_1).f2) ((rd_T23 y422 x9_1).f3) ((rd_T23 y422 x9_1).f4)).bind fun t429 => (if t429 = true then (none) else (withylaw13_MetaEach.l0 k1 y422 (wrap64 (x9_1 + 1)) a0_0 a0_1 a0_2 a0_3 a0_4))) else (none)) else (none)) = some r := H
              have A47 := Aside0.mk A470
              clear A470
              by_cases c48 : t427 = 3
              ·
               rw [if_pos c48] at H
               have c48b0 : (t427 == 3) = true := beq_iff_eq.mpr c48
               have c48b1 : (t427 != 3) = false := bne_eq_false_iff_eq.mpr c48
               clear c48
               by_cases c49 : t426.toList = ([] : List UInt8)
               ·
                rw [if_pos c49] at H
                have c49b0 : (t426.toList == ([] : List UInt8)) = true := beq_iff_eq.mpr c49
                have c49b1 : (t426.toList != ([] : List UInt8)) = false := bne_eq_false_iff_eq.mpr c49
                clear c49
                replace H := Option.bind_eq_some_iff.mp H
                obtain ⟨t429, A500, H⟩ := H
                replace H : (if t429 = true then (none) else (withylaw13_MetaEach.l0 k1 y422 (wrap64 (x9_1 + 1)) a0_0 a0_1 a0_2 a0_3 a0_4)) = some r := H
                have A50 := Aside0.mk A500
                clear A500
                by_cases c51 : t429 = true
                ·
                 subst c51
                 have H1 : (none) = some r := by rw [if_pos rfl] at H; exact H
                 clear H
                 have H := H1
                 clear H1
                 exact absurd H (by simp)
                ·
                 replace c51 := Bool.eq_false_iff.mpr c51
                 subst c51
                 have H1 : (withylaw13_MetaEach.l0 k1 y422 (wrap64 (x9_1 + 1)) a0_0 a0_1 a0_2 a0_3 a0_4) = some r := by rw [if_neg (show ¬ (false = true) by decide)] at H; exact H
                 clear H
                 have H := H1
                 clear H1
                 have H' := Aside0.mk H
                 clear H
                 have p425 : 0 ≤ (x9_1 : Int) := of_decide_eq_true (by first | (with_reducible assumption) | assumption)
                 have q425 : x9_1 < (y422.length : Int) := of_decide_eq_true (by first | (with_reducible assumption) | assumption)
                 obtain ⟨ad425, e425, hx425_0, hx425_1, hx425_2, hx425_3, hx425_4⟩ := at_T23 (Kd.R_reads' HO_7.out).2.2 x9_1 p425 q425
                 obtain rfl : (⟨go6, 0, none⟩ : Addr) = ad425 := (by injection e425)
                 (first | simp only [add_plain] at hx425_0 | simp only [add_at] at hx425_0 | simp only [Addr.add, Nat.zero_add] at hx425_0 | skip)
                 (first | simp only [add_plain] at hx425_1 | simp only [add_at] at hx425_1 | simp only [Addr.add, Nat.zero_add] at hx425_1 | skip)
                 (first | simp only [add_plain] at hx425_2 | simp only [add_at] at hx425_2 | simp only [Addr.add, Nat.zero_add] at hx425_2 | skip)
                 (first | simp only [add_plain] at hx425_3 | simp only [add_at] at hx425_3 | simp only [Addr.add, Nat.zero_add] at hx425_3 | skip)
                 (first | simp only [add_plain] at hx425_4 | simp only [add_at] at hx425_4 | simp only [Addr.add, Nat.zero_add] at hx425_4 | skip)
                 replace p425 := eq_true p425
                 replace q425 := eq_true q425
                 go_wp2_with (first | ((with_reducible refine gate_callee (f := 9) rfl ?_); refine goesL_ (some 97) rfl rfl Try.func9 (by kernel_rfl) rfl #[.agg #[.int .i64 ((rd_T23 y422 x9_1).f0), .int .i64 ((rd_T23 y422 x9_1).f1), .int .i64 ((rd_T23 y422 x9_1).f2), .int .i64 ((rd_T23 y422 x9_1).f3), .int .i64 ((rd_T23 y422 x9_1).f4)]] rfl (by (try simp only [List.map_toArray, List.map_cons, List.map_nil]); first | done | rfl | (simp only [List.length_drop, List.length_take]; rfl)) ?_; (with_reducible refine (meta_Encode.calls k1 ((rd_T23 y422 x9_1).f0) ((rd_T23 y422 x9_1).f1) ((rd_T23 y422 x9_1).f2) ((rd_T23 y422 x9_1).f3) ((rd_T23 y422 x9_1).f4) t426 t427 _ A47.out).mono ?_); rintro e w52 ⟨rfl, hb⟩; refine ⟨_, rfl, ?_⟩; have n0_ := Aside0.mk (Kd.R_below (by (with_reducible repeat (first | apply Kd.R_alloc | apply Kd.R_drewN | apply Kd.R_drew)); exact HO_7.out) hb); have n1_ := Aside0.mk (blk_below (g := gb407) (o := .cells #[.int .i64 a0_0, .int .i64 a0_1, .int .i64 a0_2, .int .i64 a0_3, .int .i64 a0_4] 23 (0, 0)) (by (with_reducible repeat (first | refine blk_drewN ?_ _ | refine blk_drew ?_ | refine blk_alloc ?_ _)); exact BK407.out) hb); have n2_ := Aside0.mk (below_step (by repeat (first | (with_reducible first | exact HB.out | apply below_alloc | apply pw_below_drewN | apply below_drew1 | refine below_set ?_ GE407.out) | exact HB.out)) hb); clear HO_7; clear BK407; clear HB; have HO_7 := n0_; have BK407 := n1_; have HB := n2_; clear n0_ n1_ n2_; (try clear hb); (try clear hb2); (try clear hk); (try clear hi); have p428 : 0 ≤ (x9_1 : Int) := of_decide_eq_true (by first | (with_reducible assumption) | assumption); have q428 : x9_1 < (y422.length : Int) := of_decide_eq_true (by first | (with_reducible assumption) | assumption); obtain ⟨ad428, e428, hx428_0, hx428_1, hx428_2, hx428_3, hx428_4⟩ := at_T23 (Kd.R_reads' HO_7.out).2.2 x9_1 p428 q428; obtain rfl : (⟨go6, 0, none⟩ : Addr) = ad428 := (by injection e428); (first | simp only [add_plain] at hx428_0 | simp only [add_at] at hx428_0 | simp only [Addr.add, Nat.zero_add] at hx428_0 | skip); (first | simp only [add_plain] at hx428_1 | simp only [add_at] at hx428_1 | simp only [Addr.add, Nat.zero_add] at hx428_1 | skip); (first | simp only [add_plain] at hx428_2 | simp only [add_at] at hx428_2 | simp only [Addr.add, Nat.zero_add] at hx428_2 | skip); (first | simp only [add_plain] at hx428_3 | simp only [add_at] at hx428_3 | simp only [Addr.add, Nat.zero_add] at hx428_3 | skip); (first | simp only [add_plain] at hx428_4 | simp only [add_at] at hx428_4 | simp only [Addr.add, Nat.zero_add] at hx428_4 | skip); replace p428 := eq_true p428; replace q428 := eq_true q428) | (go_at_call 14; (with_reducible refine (meta_May.calls ((rd_T23 y422 x9_1).f0) ((rd_T23 y422 x9_1).f1) ((rd_T23 y422 x9_1).f2) ((rd_T23 y422 x9_1).f3) ((rd_T23 y422 x9_1).f4) false _ A50.out).mono ?_); rintro e w53 ⟨rfl, hb⟩; have n0_ := Aside0.mk (Kd.R_below (by (with_reducible repeat (first | apply Kd.R_alloc | apply Kd.R_drewN | apply Kd.R_drew)); exact HO_7.out) hb); have n1_ := Aside0.mk (blk_below (g := gb407) (o := .cells #[.int .i64 a0_0, .int .i64 a0_1, .int .i64 a0_2, .int .i64 a0_3, .int .i64 a0_4] 23 (0, 0)) (by (with_reducible repeat (first | refine blk_drewN ?_ _ | refine blk_drew ?_ | refine blk_alloc ?_ _)); exact BK407.out) hb); have n2_ := Aside0.mk (below_step (by repeat (first | (with_reducible first | exact HB.out | apply below_alloc | apply pw_below_drewN | apply below_drew1 | refine below_set ?_ GE407.out) | exact HB.out)) hb); clear HO_7; clear BK407; clear HB; have HO_7 := n0_; have BK407 := n1_; have HB := n2_; clear n0_ n1_ n2_; (try clear hb); (try clear hb2); (try clear hk); (try clear hi)))
                 (try simp only [← hl7_1])
                 go_roundg k1
                 case measure => have := HK1.out; omega
                 case rel => exact ⟨(wrap64 (x9_1 + 1)), (by first | rfl | (simp; done) | (simp [*]; done)), H', ⟨by have := HK1.out; omega⟩, ⟨by (try simp only [hl7_1]); (with_reducible repeat (first | apply Kd.R_alloc | apply Kd.R_drewN | apply Kd.R_drew)); exact HO_7.out⟩, ⟨by (try simp only [hl7_1]); (with_reducible repeat (first | refine blk_drewN ?_ _ | refine blk_drew ?_ | refine blk_alloc ?_ _)); exact BK407.out⟩, ⟨by repeat (first | (with_reducible first | exact HB.out | apply below_alloc | apply pw_below_drewN | apply below_drew1 | refine below_set ?_ GE407.out) | exact HB.out)⟩⟩
               ·
                rw [if_neg c49] at H
                exact absurd H (by simp)
              ·
               rw [if_neg c48] at H
               exact absurd H (by simp)
             ·
              rw [if_neg c46] at H
              exact absurd H (by simp)
            ·
             rw [if_neg c45] at H
             have c45b0 : decide (x9_1 < (y422.length : Int)) = false := decide_eq_false c45
             clear c45
             replace H := Option.bind_eq_some_iff.mp H
             obtain ⟨t423, A540, H⟩ := H
             replace H : (if t423 = true then ((withylaw13_fixed.f k1).bind fun t424 => (some t424)) else (none)) = some r := H
             have A54 := Aside0.mk A540
             clear A540
             by_cases c55 : t423 = true
             ·
              subst c55
              have H1 : ((withylaw13_fixed.f k1).bind fun t424 => (some t424)) = some r := by rw [if_pos rfl] at H; exact H
              clear H
              have H := H1
              clear H1
              replace H := Option.bind_eq_some_iff.mp H
              obtain ⟨t424, A560, H⟩ := H
              replace H : (some t424) = some r := H
              have A56 := Aside0.mk A560
              clear A560
              obtain rfl := Option.some.inj H
              have hcz57_0 : wr.cell? ⟨gb407, 0, none⟩ = some (.int .i64 a0_0) := (blk_cell BK407.out 0).trans rfl
              have hcz57_1 : wr.cell? ⟨gb407, 1, none⟩ = some (.int .i64 a0_1) := (blk_cell BK407.out 1).trans rfl
              have hcz57_2 : wr.cell? ⟨gb407, 2, none⟩ = some (.int .i64 a0_2) := (blk_cell BK407.out 2).trans rfl
              have hcz57_3 : wr.cell? ⟨gb407, 3, none⟩ = some (.int .i64 a0_3) := (blk_cell BK407.out 3).trans rfl
              have hcz57_4 : wr.cell? ⟨gb407, 4, none⟩ = some (.int .i64 a0_4) := (blk_cell BK407.out 4).trans rfl
              have hfz57_0 := blk_frozen BK407.out 0
              have hfz57_1 := blk_frozen BK407.out 1
              have hfz57_2 := blk_frozen BK407.out 2
              have hfz57_3 := blk_frozen BK407.out 3
              have hfz57_4 := blk_frozen BK407.out 4
              go_wp2_with (first | ((with_reducible refine gate_callee (f := 22) rfl ?_); refine goesL_ (some 115) rfl rfl Try.func22 (by kernel_rfl) rfl #[.int .i64 a0_0] rfl (by (try simp only [List.map_toArray, List.map_cons, List.map_nil]); first | done | rfl | (simp only [List.length_drop, List.length_take]; rfl)) ?_; (with_reducible refine (withyref06_Size.calls a0_0 true _ A54.out).mono ?_); rintro e w' ⟨rfl, ⟨nd, rfl⟩⟩; refine ⟨_, rfl, ?_⟩) | (go_at_call 18; (with_reducible refine (withylaw13_fixed.calls k1  t424 _ A56.out).mono ?_); rintro e w58 ⟨rfl, hb⟩; have n0_ := Aside0.mk (Kd.R_below (by (with_reducible repeat (first | apply Kd.R_alloc | apply Kd.R_drewN | apply Kd.R_drew)); exact HO_7.out) hb); have n1_ := Aside0.mk (blk_below (g := gb407) (o := .cells #[.int .i64 a0_0, .int .i64 a0_1, .int .i64 a0_2, .int .i64 a0_3, .int .i64 a0_4] 23 (0, 0)) (by (with_reducible repeat (first | refine blk_drewN ?_ _ | refine blk_drew ?_ | refine blk_alloc ?_ _)); exact BK407.out) hb); have n2_ := Aside0.mk (below_step (by repeat (first | (with_reducible first | exact HB.out | apply below_alloc | apply pw_below_drewN | apply below_drew1 | refine below_set ?_ GE407.out) | exact HB.out)) hb); clear HO_7; clear BK407; clear HB; have HO_7 := n0_; have BK407 := n1_; have HB := n2_; clear n0_ n1_ n2_; (try clear hb); (try clear hb2); (try clear hk); (try clear hi)))
              go_ret
              exact ⟨by first | rfl | (simp [errW_none, errW_some] <;> rfl) | (simp [*, errW_none, errW_some] <;> rfl), by repeat (first | (with_reducible first | exact HB.out | apply below_alloc | apply pw_below_drewN | apply below_drew1 | refine below_set ?_ GE407.out) | exact HB.out)⟩
             ·
              replace c55 := Bool.eq_false_iff.mpr c55
              subst c55
              have H1 : (none) = some r := by rw [if_neg (show ¬ (false = true) by decide)] at H; exact H
              clear H
              have H := H1
              clear H1
              exact absurd H (by simp)
         ·
          rw [if_neg c19] at H
          exact absurd H (by simp)
        ·
         rw [if_neg c17] at H
         exact absurd H (by simp)
       ·
        rw [if_neg c15] at H
        exact absurd H (by simp)
      ·
       rw [if_neg c13] at H
       exact absurd H (by simp)
     ·
      rw [if_neg c11] at H
      exact absurd H (by simp)
    ·
     rw [if_neg c9] at H
     exact absurd H (by simp)
   ·
    rw [if_neg c7] at H
    exact absurd H (by simp)
  ·
   rw [if_neg c5] at H
   exact absurd H (by simp)
 ·
  replace c4 := Bool.eq_false_iff.mpr c4
  subst c4
  have H1 : ((meta_Encode.f k a0_0 a0_1 a0_2 a0_3 a0_4).bind fun bt409 => (if bt409.2 = 3 then (if bt409.1.toList = ([] : List UInt8) then ((withylaw13_fixed.f k).bind fun t411 => (some t411)) else (none)) else (none))) = some r := by rw [if_neg (show ¬ (false = true) by decide)] at H; exact H
  clear H
  have H := H1
  clear H1
  replace H := Option.bind_eq_some_iff.mp H
  obtain ⟨⟨t409, t410⟩, A590, H⟩ := H
  replace H : (if t410 = 3 then (if t409.toList = ([] : List UInt8) then ((withylaw13_fixed.f k).bind fun t411 => (some t411)) else (none)) else (none)) = some r := H
  have A59 := Aside0.mk A590
  clear A590
  by_cases c60 : t410 = 3
  ·
   rw [if_pos c60] at H
   have c60b0 : (t410 == 3) = true := beq_iff_eq.mpr c60
   have c60b1 : (t410 != 3) = false := bne_eq_false_iff_eq.mpr c60
   clear c60
   by_cases c61 : t409.toList = ([] : List UInt8)
   ·
    rw [if_pos c61] at H
    have c61b0 : (t409.toList == ([] : List UInt8)) = true := beq_iff_eq.mpr c61
    have c61b1 : (t409.toList != ([] : List UInt8)) = false := bne_eq_false_iff_eq.mpr c61
    clear c61
    replace H := Option.bind_eq_some_iff.mp H
    obtain ⟨t411, A620, H⟩ := H
    replace H : (some t411) = some r := H
    have A62 := Aside0.mk A620
    clear A620
    obtain rfl := Option.some.inj H
    go_enter Try.func8, Try.ntmps8
    go_wp2_with (first | ((with_reducible refine gate_dst (N := 2) rfl ?_); refine box_event ?hg (N := 2) ?hd (cs := #[.int .i64 a0_0, .int .i64 a0_1, .int .i64 a0_2, .int .i64 a0_3, .int .i64 a0_4]) (t := 23) ?hr ?_; (case hd => rfl); (case hg => rfl); (case hr => first | (go_simp; done) | (go_simp; rfl)); intro gb407 hg w63 hbox hb; have n0_ := Aside0.mk (below_step (by repeat (first | (with_reducible first | exact HB.out | apply below_alloc | apply pw_below_drewN | apply below_drew1) | exact HB.out)) hb); have n1_ := Aside0.mk (hbox); have n2_ := Aside0.mk ((by rw [hg]; exact (below_size (by repeat (first | (with_reducible first | exact HB.out | apply below_alloc | apply pw_below_drewN | apply below_drew1) | exact HB.out))) : w.heap.size ≤ gb407)); have n3_ := Aside0.mk ((by rw [hg]; exact (below_size (by repeat (first | (with_reducible first | exact HB.out | apply below_alloc | apply pw_below_drewN | apply below_drew1) | exact HB.out))) : w.heap.size ≤ gb407)); clear HB; have HB := n0_; have BK407 := n1_; have GW407 := n2_; have GE407 := n3_; clear n0_ n1_ n2_ n3_; clear hb hbox hg; have hcz64_0 : w63.cell? ⟨gb407, 0, none⟩ = some (.int .i64 a0_0) := (blk_cell BK407.out 0).trans rfl; have hcz64_1 : w63.cell? ⟨gb407, 1, none⟩ = some (.int .i64 a0_1) := (blk_cell BK407.out 1).trans rfl; have hcz64_2 : w63.cell? ⟨gb407, 2, none⟩ = some (.int .i64 a0_2) := (blk_cell BK407.out 2).trans rfl; have hcz64_3 : w63.cell? ⟨gb407, 3, none⟩ = some (.int .i64 a0_3) := (blk_cell BK407.out 3).trans rfl; have hcz64_4 : w63.cell? ⟨gb407, 4, none⟩ = some (.int .i64 a0_4) := (blk_cell BK407.out 4).trans rfl; have hfz64_0 := blk_frozen BK407.out 0; have hfz64_1 := blk_frozen BK407.out 1; have hfz64_2 := blk_frozen BK407.out 2; have hfz64_3 := blk_frozen BK407.out 3; have hfz64_4 := blk_frozen BK407.out 4) | ((with_reducible refine gate_callee (f := 14) rfl ?_); refine goesL_ (some 13) rfl rfl Try.func14 (by kernel_rfl) rfl #[.agg #[.int .i64 a0_0, .int .i64 a0_1, .int .i64 a0_2, .int .i64 a0_3, .int .i64 a0_4]] rfl (by (try simp only [List.map_toArray, List.map_cons, List.map_nil]); first | done | rfl | (simp only [List.length_drop, List.length_take]; rfl)) ?_; (with_reducible refine (meta_May.calls a0_0 a0_1 a0_2 a0_3 a0_4 false _ A3.out).mono ?_); rintro e w65 ⟨rfl, hb⟩; refine ⟨_, rfl, ?_⟩; have n0_ := Aside0.mk (blk_below (g := gb407) (o := .cells #[.int .i64 a0_0, .int .i64 a0_1, .int .i64 a0_2, .int .i64 a0_3, .int .i64 a0_4] 23 (0, 0)) (by (with_reducible repeat (first | refine blk_drewN ?_ _ | refine blk_drew ?_ | refine blk_alloc ?_ _)); exact BK407.out) hb); have n1_ := Aside0.mk (below_step (by repeat (first | (with_reducible first | exact HB.out | apply below_alloc | apply pw_below_drewN | apply below_drew1 | refine below_set ?_ GE407.out) | exact HB.out)) hb); clear BK407; clear HB; have BK407 := n0_; have HB := n1_; clear n0_ n1_; (try clear hb); (try clear hb2); (try clear hk); (try clear hi); have hcz66_0 : w65.cell? ⟨gb407, 0, none⟩ = some (.int .i64 a0_0) := (blk_cell BK407.out 0).trans rfl; have hcz66_1 : w65.cell? ⟨gb407, 1, none⟩ = some (.int .i64 a0_1) := (blk_cell BK407.out 1).trans rfl; have hcz66_2 : w65.cell? ⟨gb407, 2, none⟩ = some (.int .i64 a0_2) := (blk_cell BK407.out 2).trans rfl; have hcz66_3 : w65.cell? ⟨gb407, 3, none⟩ = some (.int .i64 a0_3) := (blk_cell BK407.out 3).trans rfl; have hcz66_4 : w65.cell? ⟨gb407, 4, none⟩ = some (.int .i64 a0_4) := (blk_cell BK407.out 4).trans rfl; have hfz66_0 := blk_frozen BK407.out 0; have hfz66_1 := blk_frozen BK407.out 1; have hfz66_2 := blk_frozen BK407.out 2; have hfz66_3 := blk_frozen BK407.out 3; have hfz66_4 := blk_frozen BK407.out 4) | ((with_reducible refine gate_callee (f := 9) rfl ?_); refine goesL_ (some 17) rfl rfl Try.func9 (by kernel_rfl) rfl #[.agg #[.int .i64 a0_0, .int .i64 a0_1, .int .i64 a0_2, .int .i64 a0_3, .int .i64 a0_4]] rfl (by (try simp only [List.map_toArray, List.map_cons, List.map_nil]); first | done | rfl | (simp only [List.length_drop, List.length_take]; rfl)) ?_; (with_reducible refine (meta_Encode.calls k a0_0 a0_1 a0_2 a0_3 a0_4 t409 t410 _ A59.out).mono ?_); rintro e w67 ⟨rfl, hb⟩; refine ⟨_, rfl, ?_⟩; have n0_ := Aside0.mk (blk_below (g := gb407) (o := .cells #[.int .i64 a0_0, .int .i64 a0_1, .int .i64 a0_2, .int .i64 a0_3, .int .i64 a0_4] 23 (0, 0)) (by (with_reducible repeat (first | refine blk_drewN ?_ _ | refine blk_drew ?_ | refine blk_alloc ?_ _)); exact BK407.out) hb); have n1_ := Aside0.mk (below_step (by repeat (first | (with_reducible first | exact HB.out | apply below_alloc | apply pw_below_drewN | apply below_drew1 | refine below_set ?_ GE407.out) | exact HB.out)) hb); clear BK407; clear HB; have BK407 := n0_; have HB := n1_; clear n0_ n1_; (try clear hb); (try clear hb2); (try clear hk); (try clear hi)) | (go_at_call 18; (with_reducible refine (withylaw13_fixed.calls k  t411 _ A62.out).mono ?_); rintro e w68 ⟨rfl, hb⟩; have n0_ := Aside0.mk (blk_below (g := gb407) (o := .cells #[.int .i64 a0_0, .int .i64 a0_1, .int .i64 a0_2, .int .i64 a0_3, .int .i64 a0_4] 23 (0, 0)) (by (with_reducible repeat (first | refine blk_drewN ?_ _ | refine blk_drew ?_ | refine blk_alloc ?_ _)); exact BK407.out) hb); have n1_ := Aside0.mk (below_step (by repeat (first | (with_reducible first | exact HB.out | apply below_alloc | apply pw_below_drewN | apply below_drew1 | refine below_set ?_ GE407.out) | exact HB.out)) hb); clear BK407; clear HB; have BK407 := n0_; have HB := n1_; clear n0_ n1_; (try clear hb); (try clear hb2); (try clear hk); (try clear hi)))
    go_ret
    exact ⟨by first | rfl | (simp [errW_none, errW_some] <;> rfl) | (simp [*, errW_none, errW_some] <;> rfl), by repeat (first | (with_reducible first | exact HB.out | apply below_alloc | apply pw_below_drewN | apply below_drew1 | refine below_set ?_ GE407.out) | exact HB.out)⟩
   ·
    rw [if_neg c61] at H
    exact absurd H (by simp)
  ·
   rw [if_neg c60] at H
   exact absurd H (by simp)

end Go.Proofs.Ytnkndnpnjbcaoaa.P
