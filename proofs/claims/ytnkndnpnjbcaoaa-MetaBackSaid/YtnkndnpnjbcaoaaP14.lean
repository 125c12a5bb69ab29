/- What is proved here: for functions of the Go text, a Lean function each, and that the call comes to just what it answers. Conditions: as each contract names them. Written by wip/tools/myprint.py, a driver of the print of the kit. -/
import Derived.Test.YtnkndnpnjbcaoaaP0
import Derived.Test.YtnkndnpnjbcaoaaP1
import Derived.Test.YtnkndnpnjbcaoaaP3
import Derived.Test.YtnkndnpnjbcaoaaP6
import Derived.Test.YtnkndnpnjbcaoaaP10
import Derived.Test.YtnkndnpnjbcaoaaP12
import Derived.Test.YtnkndnpnjbcaoaaWAbbr
namespace Go.Proofs.Ytnkndnpnjbcaoaa.P
open Go.RowKit Go.Proofs.YtnkndnpnjbcaoaaW.PrintWords Go.Proofs.YtnkndnpnjbcaoaaW.PrintLast Go.Proofs.YtnkndnpnjbcaoaaW.PrintMore Go.Proofs.YtnkndnpnjbcaoaaW.Abbr
-- PACKED
attribute [local go_sem] max2_int min2_int max_two min_two max_three min_three max_four min_four Go.Proofs.YtnkndnpnjbcaoaaLaws.str_leq Go.Proofs.YtnkndnpnjbcaoaaLaws.str_gtr Go.Proofs.YtnkndnpnjbcaoaaLaws.str_geq Go.Proofs.YtnkndnpnjbcaoaaLaws.max2_str Go.Proofs.YtnkndnpnjbcaoaaLaws.min2_str   -- for this text's walks alone
set_option linter.unusedVariables false
set_option linter.unusedSimpArgs false

attribute [local go_sem high] eqA23
/-! ### withylaw13_MetaBack: function 4 -/
mutual
def withylaw13_MetaBack.j0 : Nat → ByteArray → ByteArray → Int → Bool → Int → Int → Int → Int → Int → Option (Bool)
 | 0, _, _, _, _, _, _, _, _, _ => none
 | k + 1, x2, x7, x8, x53, x329000, x329001, x329002, x329003, x329004 => if x53 = true then (none) else (if x8 = 0 then ((meta_Decode.f k x7).bind fun bt335 => (if bt335.2.2.2.2.2 = 0 then (if (!(bt335.1 == x329000) || (!(bt335.2.1 == x329001) || (!(bt335.2.2.1 == x329002) || (!(bt335.2.2.2.1 == x329003) || (!(bt335.2.2.2.2.1 == x329004)))))) = true then (none) else (if (x7.size : Int) = x329000 then (withylaw13_MetaBack.j1 k x2) else (none))) else (none))) else (withylaw13_MetaBack.j1 k x2))
def withylaw13_MetaBack.j1 : Nat → ByteArray → Option (Bool)
 | 0, _ => none
 | k + 1, x2 => (meta_Decode.f k x2).bind fun bt342 => (if bt342.2.2.2.2.2 = 0 then ((meta_Encode.f k bt342.1 bt342.2.1 bt342.2.2.1 bt342.2.2.2.1 bt342.2.2.2.2.1).bind fun bt349 => (if bt349.2 = 0 then (if bt349.1.toList = x2.toList then ((meta_May.f bt342.1 bt342.2.1 bt342.2.2.1 bt342.2.2.2.1 bt342.2.2.2.2.1).bind fun t351 => (if t351 = true then ((withylaw13_fixed.f k).bind fun t352 => (some t352)) else (none))) else (none)) else (none))) else (if bt342.2.2.2.2.2 = 3 then (if (bt342.1 == 0 && (bt342.2.1 == 0 && (bt342.2.2.1 == 0 && (bt342.2.2.2.1 == 0 && (bt342.2.2.2.2.1 == 0))))) = true then ((withylaw13_fixed.f k).bind fun t353 => (some t353)) else (none)) else (none)))
end
def withylaw13_MetaBack.f (k : Nat) (a0_0 : Int) (a0_1 : Int) (a0_2 : Int) (a0_3 : Int) (a0_4 : Int) (a1_0 : Int) (a1_1 : Int) (a1_2 : Int) (a1_3 : Int) (a1_4 : Int) (a2 : ByteArray) : Option (Bool) := if 0 ≤ (mn (a2.size : Int) 1100) then (if (mn (a2.size : Int) 1100) ≤ (a2.size : Int) then ((meta_Encode.f k a0_0 a0_1 a0_2 a0_3 a0_4).bind fun bt330 => ((meta_Encode.f k a1_0 a1_1 a1_2 a1_3 a1_4).bind fun bt332 => ((meta_May.f a0_0 a0_1 a0_2 a0_3 a0_4).bind fun t334 => (if ((bt330.2 == 0) != t334) = true then (withylaw13_MetaBack.j0 k (a2.extract 0 ((mn (a2.size : Int) 1100) : Int).toNat) bt330.1 bt330.2 true a0_0 a0_1 a0_2 a0_3 a0_4) else (if bt330.2 = 0 then (if bt332.2 = 0 then (withylaw13_MetaBack.j0 k (a2.extract 0 ((mn (a2.size : Int) 1100) : Int).toNat) bt330.1 bt330.2 ((bt330.1.toList == bt332.1.toList) != (a0_0 == a1_0 && (a0_1 == a1_1 && (a0_2 == a1_2 && (a0_3 == a1_3 && (a0_4 == a1_4)))))) a0_0 a0_1 a0_2 a0_3 a0_4) else (withylaw13_MetaBack.j0 k (a2.extract 0 ((mn (a2.size : Int) 1100) : Int).toNat) bt330.1 bt330.2 false a0_0 a0_1 a0_2 a0_3 a0_4)) else (withylaw13_MetaBack.j0 k (a2.extract 0 ((mn (a2.size : Int) 1100) : Int).toNat) bt330.1 bt330.2 false a0_0 a0_1 a0_2 a0_3 a0_4)))))) else (none)) else (none)
theorem withylaw13_MetaBack.mono_l : ∀ k, (∀ y0 y1 y2 y3 y4 y5 y6 y7 y8, LeO (withylaw13_MetaBack.j0 k y0 y1 y2 y3 y4 y5 y6 y7 y8) (withylaw13_MetaBack.j0 (k + 1) y0 y1 y2 y3 y4 y5 y6 y7 y8)) ∧ (∀ y0, LeO (withylaw13_MetaBack.j1 k y0) (withylaw13_MetaBack.j1 (k + 1) y0))
 | 0 => ⟨fun _ _ _ _ _ _ _ _ _ r h => by simp [withylaw13_MetaBack.j0] at h, fun _ r h => by simp [withylaw13_MetaBack.j1] at h⟩
 | k + 1 => by
  obtain ⟨ih0, ih1⟩ := withylaw13_MetaBack.mono_l k
  refine ⟨?_, ?_⟩
  ·intro y0 y1 y2 y3 y4 y5 y6 y7 y8
   unfold withylaw13_MetaBack.j0
   repeat' first
   | (with_reducible exact ih0 _ _ _ _ _ _ _ _ _)
   | (with_reducible exact ih1 _)
   | (with_reducible exact meta_Decode.mono _ _)
   | (with_reducible exact meta_Encode.mono _ _ _ _ _ _)
   | (with_reducible exact withylaw13_fixed.mono _)
   | (with_reducible exact LeO.refl _)
   | (with_reducible exact LeO.none _)
   | (with_reducible refine LeO.ite ?_ ?_)
   | (with_reducible refine LeO.bind ?_ (fun _ => ?_))
   | exact ih0 _ _ _ _ _ _ _ _ _
   | exact ih1 _
   | exact meta_Decode.mono _ _
   | exact meta_Encode.mono _ _ _ _ _ _
   | exact withylaw13_fixed.mono _
   | exact LeO.none _
   | refine LeO.ite ?_ ?_
   | refine LeO.bind ?_ (fun _ => ?_)
  ·intro y0
   unfold withylaw13_MetaBack.j1
   repeat' first
   | (with_reducible exact ih0 _ _ _ _ _ _ _ _ _)
   | (with_reducible exact ih1 _)
   | (with_reducible exact meta_Decode.mono _ _)
   | (with_reducible exact meta_Encode.mono _ _ _ _ _ _)
   | (with_reducible exact withylaw13_fixed.mono _)
   | (with_reducible exact LeO.refl _)
   | (with_reducible exact LeO.none _)
   | (with_reducible refine LeO.ite ?_ ?_)
   | (with_reducible refine LeO.bind ?_ (fun _ => ?_))
   | exact ih0 _ _ _ _ _ _ _ _ _
   | exact ih1 _
   | exact meta_Decode.mono _ _
   | exact meta_Encode.mono _ _ _ _ _ _
   | exact withylaw13_fixed.mono _
   | exact LeO.none _
   | refine LeO.ite ?_ ?_
   | refine LeO.bind ?_ (fun _ => ?_)
theorem withylaw13_MetaBack.mono : ∀ a0 a1 a2 a3 a4 a5 a6 a7 a8 a9 a10 k, LeO (withylaw13_MetaBack.f k a0 a1 a2 a3 a4 a5 a6 a7 a8 a9 a10) (withylaw13_MetaBack.f (k + 1) a0 a1 a2 a3 a4 a5 a6 a7 a8 a9 a10) := by
 intro a0 a1 a2 a3 a4 a5 a6 a7 a8 a9 a10 k
 obtain ⟨ih0, ih1⟩ := withylaw13_MetaBack.mono_l k
 unfold withylaw13_MetaBack.f
 repeat' first
   | (with_reducible exact ih0 _ _ _ _ _ _ _ _ _)
   | (with_reducible exact ih1 _)
   | (with_reducible exact meta_Decode.mono _ _)
   | (with_reducible exact meta_Encode.mono _ _ _ _ _ _)
   | (with_reducible exact withylaw13_fixed.mono _)
   | (with_reducible exact LeO.refl _)
   | (with_reducible exact LeO.none _)
   | (with_reducible refine LeO.ite ?_ ?_)
   | (with_reducible refine LeO.bind ?_ (fun _ => ?_))
   | exact ih0 _ _ _ _ _ _ _ _ _
   | exact ih1 _
   | exact meta_Decode.mono _ _
   | exact meta_Encode.mono _ _ _ _ _ _
   | exact withylaw13_fixed.mono _
   | exact LeO.none _
   | refine LeO.ite ?_ ?_
   | refine LeO.bind ?_ (fun _ => ?_)
set_option maxHeartbeats 8000000 in
set_option maxRecDepth 100000 in
theorem withylaw13_MetaBack.calls (k : Nat) (a0_0 : Int) (a0_1 : Int) (a0_2 : Int) (a0_3 : Int) (a0_4 : Int) (a1_0 : Int) (a1_1 : Int) (a1_2 : Int) (a1_3 : Int) (a1_4 : Int) (a2 : ByteArray) (r : Bool) (w : World) (h : withylaw13_MetaBack.f k a0_0 a0_1 a0_2 a0_3 a0_4 a1_0 a1_1 a1_2 a1_3 a1_4 a2 = some r) :
  Calls Try.prog 4 #[.agg #[.int .i64 a0_0, .int .i64 a0_1, .int .i64 a0_2, .int .i64 a0_3, .int .i64 a0_4], .agg #[.int .i64 a1_0, .int .i64 a1_1, .int .i64 a1_2, .int .i64 a1_3, .int .i64 a1_4], .string a2] w fun e w' => e = .returned (.bool r) ∧ Below w.heap.size w w' := by
 have hu23 := Try.underlying23
 have HB := as_ (Below.refl w.heap.size w)
 have H : (if 0 ≤ (mn (a2.size : Int) 1100) then (if (mn (a2.size : Int) 1100) ≤ (a2.size : Int) then ((meta_Encode.f k a0_0 a0_1 a0_2 a0_3 a0_4).bind fun bt330 => ((meta_Encode.f k a1_0 a1_1 a1_2 a1_3 a1_4).bind fun bt332 => ((meta_May.f a0_0 a0_1 a0_2 a0_3 a0_4).bind fun t334 => (if ((bt330.2 == 0) != t334) = true then (withylaw13_MetaBack.j0 k (a2.extract 0 ((mn (a2.size : Int) 1100) : Int).toNat) bt330.1 bt330.2 true a0_0 a0_1 a0_2 a0_3 a0_4) else (if bt330.2 = 0 then (if bt332.2 = 0 then (withylaw13_MetaBack.j0 k (a2.extract 0 ((mn (a2.size : Int) 1100) : Int).toNat) bt330.1 bt330.2 ((bt330.1.toList == bt332.1.toList) != (a0_0 == a1_0 && (a0_1 == a1_1 && (a0_2 == a1_2 && (a0_3 == a1_3 && (a0_4 == a1_4)))))) a0_0 a0_1 a0_2 a0_3 a0_4) else (withylaw13_MetaBack.j0 k (a2.extract 0 ((mn (a2.size : Int) 1100) : Int).toNat) bt330.1 bt330.2 false a0_0 a0_1 a0_2 a0_3 a0_4)) else (withylaw13_MetaBack.j0 k (a2.extract 0 ((mn (a2.size : Int) 1100) : Int).toNat) bt330.1 bt330.2 false a0_0 a0_1 a0_2 a0_3 a0_4)))))) else (none)) else (none)) = some r := h
 clear h
 obtain ⟨ji4, hji4⟩ : ∃ j_ : Int, (mn (a2.size : Int) 1100) = j_ := ⟨_, rfl⟩
 replace H : (if 0 ≤ (ji4) then (if (ji4) ≤ (a2.size : Int) then ((meta_Encode.f k a0_0 a0_1 a0_2 a0_3 a0_4).bind fun bt330 => ((meta_Encode.f k a1_0 a1_1 a1_2 a1_3 a1_4).bind fun bt332 => ((meta_May.f a0_0 a0_1 a0_2 a0_3 a0_4).bind fun t334 => (if ((bt330.2 == 0) != t334) = true then (withylaw13_MetaBack.j0 k (a2.extract 0 ((ji4) : Int).toNat) bt330.1 bt330.2 true a0_0 a0_1 a0_2 a0_3 a0_4) else (if bt330.2 = 0 then (if bt332.2 = 0 then (withylaw13_MetaBack.j0 k (a2.extract 0 ((ji4) : Int).toNat) bt330.1 bt330.2 ((bt330.1.toList == bt332.1.toList) != (a0_0 == a1_0 && (a0_1 == a1_1 && (a0_2 == a1_2 && (a0_3 == a1_3 && (a0_4 == a1_4)))))) a0_0 a0_1 a0_2 a0_3 a0_4) else (withylaw13_MetaBack.j0 k (a2.extract 0 ((ji4) : Int).toNat) bt330.1 bt330.2 false a0_0 a0_1 a0_2 a0_3 a0_4)) else (withylaw13_MetaBack.j0 k (a2.extract 0 ((ji4) : Int).toNat) bt330.1 bt330.2 false a0_0 a0_1 a0_2 a0_3 a0_4)))))) else (none)) else (none)) = some r := by first | (rw [hji4] at H; exact H) | (simp only [hji4] at H ⊢; exact H)
 (try (have hji4h : ji4 ≤ 1100 := by (rw [← hji4]; unfold mn; (repeat' split) <;> omega)))
 (try (have hji4g : ji4 ≤ 64 := by omega))
 (try (have hji4l : 0 ≤ ji4 := by (rw [← hji4]; unfold mn; (repeat' split) <;> omega)))
 (try (have hji4m : 0 ≤ ji4 := by omega))
 have hji4_ : (if 1100 < (a2.size : Int) then 1100 else (a2.size : Int)) = ji4 := hji4
 by_cases c5 : 0 ≤ (ji4)
 rotate_left
 ·rw [if_neg c5] at H
  exact absurd H (by simp)
 
 rw [if_pos c5] at H
 have c5b0 := eq_true c5
 have c5b1 : decide (0 ≤ (ji4)) = true := decide_eq_true c5
 clear c5
 by_cases c6 : (ji4) ≤ (a2.size : Int)
 rotate_left
 ·rw [if_neg c6] at H
  exact absurd H (by simp)
 rw [if_pos c6] at H
 have c6b0 := eq_true c6
 have c6b1 : decide ((ji4) ≤ (a2.size : Int)) = true := decide_eq_true c6
 clear c6
 obtain ⟨js7, hjs7⟩ : ∃ j_ : ByteArray, (a2.extract 0 ((ji4) : Int).toNat) = j_ := ⟨_, rfl⟩
 replace H : ((meta_Encode.f k a0_0 a0_1 a0_2 a0_3 a0_4).bind fun bt330 => ((meta_Encode.f k a1_0 a1_1 a1_2 a1_3 a1_4).bind fun bt332 => ((meta_May.f a0_0 a0_1 a0_2 a0_3 a0_4).bind fun t334 => (if ((bt330.2 == 0) != t334) = true then (withylaw13_MetaBack.j0 k js7 bt330.1 bt330.2 true a0_0 a0_1 a0_2 a0_3 a0_4) else (if bt330.2 = 0 then (if bt332.2 = 0 then (withylaw13_MetaBack.j0 k js7 bt330.1 bt330.2 ((bt330.1.toList == bt332.1.toList) != (a0_0 == a1_0 && (a0_1 == a1_1 && (a0_2 == a1_2 && (a0_3 == a1_3 && (a0_4 == a1_4)))))) a0_0 a0_1 a0_2 a0_3 a0_4) else (withylaw13_MetaBack.j0 k js7 bt330.1 bt330.2 false a0_0 a0_1 a0_2 a0_3 a0_4)) else (withylaw13_MetaBack.j0 k js7 bt330.1 bt330.2 false a0_0 a0_1 a0_2 a0_3 a0_4)))))) = some r := by first | (rw [hjs7] at H; exact H) | (simp only [hjs7] at H ⊢; exact H)
 replace H := bM H
 obtain ⟨⟨t330, t331⟩, A80, H⟩ := H
 replace H : ((meta_Encode.f k a1_0 a1_1 a1_2 a1_3 a1_4).bind fun bt332 => ((meta_May.f a0_0 a0_1 a0_2 a0_3 a0_4).bind fun t334 => (if ((t331 == 0) != t334) = true then (withylaw13_MetaBack.j0 k js7 t330 t331 true a0_0 a0_1 a0_2 a0_3 a0_4) else (if t331 = 0 then (if bt332.2 = 0 then (withylaw13_MetaBack.j0 k js7 t330 t331 ((t330.toList == bt332.1.toList) != (a0_0 == a1_0 && (a0_1 == a1_1 && (a0_2 == a1_2 && (a0_3 == a1_3 && (a0_4 == a1_4)))))) a0_0 a0_1 a0_2 a0_3 a0_4) else (withylaw13_MetaBack.j0 k js7 t330 t331 false a0_0 a0_1 a0_2 a0_3 a0_4)) else (withylaw13_MetaBack.j0 k js7 t330 t331 false a0_0 a0_1 a0_2 a0_3 a0_4))))) = some r := H
 have A8 := Aside0.mk A80
 clear A80
 replace H := bM H
 obtain ⟨⟨t332, t333⟩, A90, H⟩ := H
 replace H : ((meta_May.f a0_0 a0_1 a0_2 a0_3 a0_4).bind fun t334 => (if ((t331 == 0) != t334) = true then (withylaw13_MetaBack.j0 k js7 t330 t331 true a0_0 a0_1 a0_2 a0_3 a0_4) else (if t331 = 0 then (if t333 = 0 then (withylaw13_MetaBack.j0 k js7 t330 t331 ((t330.toList == t332.toList) != (a0_0 == a1_0 && (a0_1 == a1_1 && (a0_2 == a1_2 && (a0_3 == a1_3 && (a0_4 == a1_4)))))) a0_0 a0_1 a0_2 a0_3 a0_4) else (withylaw13_MetaBack.j0 k js7 t330 t331 false a0_0 a0_1 a0_2 a0_3 a0_4)) else (withylaw13_MetaBack.j0 k js7 t330 t331 false a0_0 a0_1 a0_2 a0_3 a0_4)))) = some r := H
 have A9 := Aside0.mk A90
 clear A90
 have HC10 := Aside0.mk H
 clear H
 go_enter Try.func4, Try.ntmps4
 go_upto_region 4 with (first | ((with_reducible refine gate_dst (N := 3) rfl ?_); (try (refine gate_guard (by rfl) ?_; dsimp only)); refine box_event (by rfl) (N := 3) (by rfl) (cs := #[.int .i64 a0_0, .int .i64 a0_1, .int .i64 a0_2, .int .i64 a0_3, .int .i64 a0_4]) (t := 23) gS ?_; intro gb328 hg w11 hbox hb; have BK328 := as_ (hbox); have GW328 := gw hg bA; have GE328 := gw hg bA; replace HB := as_ (below_step bA hb); clear hb hbox hg) | ((with_reducible refine gate_dst (N := 4) rfl ?_); (try (refine gate_guard (by rfl) ?_; dsimp only)); refine box_event (by rfl) (N := 4) (by rfl) (cs := #[.int .i64 a1_0, .int .i64 a1_1, .int .i64 a1_2, .int .i64 a1_3, .int .i64 a1_4]) (t := 23) gS ?_; intro gb329 hg w12 hbox hb; have BK329 := as_ (hbox); have GW329 := gw hg bA; have GE329 := gw hg bA; have NB328_329 := nl BK328 hg; have NB329_328 := ng BK328 hg; replace BK328 := bb BK328 hb; replace HB := as_ (below_step bA hb); clear hb hbox hg; have hnb13 := NB328_329.out; have hnc13 := NB329_328.out; obtain ⟨hcz14_0, hcz14_1, hcz14_2, hcz14_3, hcz14_4⟩ := zc5 BK328; obtain ⟨hfz14_0, hfz14_1, hfz14_2, hfz14_3, hfz14_4⟩ := zf5 BK328) | ((with_reducible refine gate_callee (f := 9) rfl ?_); refine goesL_ (some 24) rfl rfl Try.func9 (by kernel_rfl) rfl #[.agg #[.int .i64 a0_0, .int .i64 a0_1, .int .i64 a0_2, .int .i64 a0_3, .int .i64 a0_4]] rfl aO ?_; (with_reducible refine (meta_Encode.calls k a0_0 a0_1 a0_2 a0_3 a0_4 t330 t331 _ A8.out).mono ?_); rintro e w15 ⟨rfl, hb⟩; refine ⟨_, rfl, ?_⟩; replace BK328 := bb BK328 hb; replace BK329 := bb BK329 hb; replace HB := as_ (below_step bA hb); (try clear hb); (try clear hb2); (try clear hk); (try clear hi); obtain ⟨hcz16_0, hcz16_1, hcz16_2, hcz16_3, hcz16_4⟩ := zc5 BK329; obtain ⟨hfz16_0, hfz16_1, hfz16_2, hfz16_3, hfz16_4⟩ := zf5 BK329) | ((with_reducible refine gate_callee (f := 9) rfl ?_); refine goesL_ (some 29) rfl rfl Try.func9 (by kernel_rfl) rfl #[.agg #[.int .i64 a1_0, .int .i64 a1_1, .int .i64 a1_2, .int .i64 a1_3, .int .i64 a1_4]] rfl aO ?_; (with_reducible refine (meta_Encode.calls k a1_0 a1_1 a1_2 a1_3 a1_4 t332 t333 _ A9.out).mono ?_); rintro e w17 ⟨rfl, hb⟩; refine ⟨_, rfl, ?_⟩; replace BK328 := bb BK328 hb; replace BK329 := bb BK329 hb; replace HB := as_ (below_step bA hb); (try clear hb); (try clear hb2); (try clear hk); (try clear hi)))
 (try simp only [Act.put, List.setIfInBounds_toArray, List.set_cons_zero, List.set_cons_succ])
 go_cut [53] (fun v53 wc => ∃ (kq : Nat) (x53_9 : Bool), v53 = .bool x53_9 ∧ Aside0 (withylaw13_MetaBack.j0 kq js7 t330 t331 x53_9 a0_0 a0_1 a0_2 a0_3 a0_4 = some r) ∧ Aside0 (kq ≤ k) ∧ Aside0 (wc.heap[gb328]? = some (.cells #[.int .i64 a0_0, .int .i64 a0_1, .int .i64 a0_2, .int .i64 a0_3, .int .i64 a0_4] 23 (0, 0))) ∧ Aside0 (wc.heap[gb329]? = some (.cells #[.int .i64 a1_0, .int .i64 a1_1, .int .i64 a1_2, .int .i64 a1_3, .int .i64 a1_4] 23 (0, 0))) ∧ Aside0 (Below w.heap.size w wc))
 case first =>
  have H := HC10.out
  clear HC10
  replace H := bM H
  obtain ⟨t334, A180, H⟩ := H
  replace H : (if ((t331 == 0) != t334) = true then (withylaw13_MetaBack.j0 k js7 t330 t331 true a0_0 a0_1 a0_2 a0_3 a0_4) else (if t331 = 0 then (if t333 = 0 then (withylaw13_MetaBack.j0 k js7 t330 t331 ((t330.toList == t332.toList) != (a0_0 == a1_0 && (a0_1 == a1_1 && (a0_2 == a1_2 && (a0_3 == a1_3 && (a0_4 == a1_4)))))) a0_0 a0_1 a0_2 a0_3 a0_4) else (withylaw13_MetaBack.j0 k js7 t330 t331 false a0_0 a0_1 a0_2 a0_3 a0_4)) else (withylaw13_MetaBack.j0 k js7 t330 t331 false a0_0 a0_1 a0_2 a0_3 a0_4))) = some r := H
  have A18 := Aside0.mk A180
  clear A180
  by_cases c19 : ((t331 == 0) != t334) = true
  ·rw [if_pos c19] at H
   have c19b0 : ((t331 == 0) != t334) = true := c19
   (try (have c19b1 : decide ((t331 == 0) = t334) = false := by simpa using c19))
   (try (have c19b2 : ((t331 == 0) == t334) = false := by simpa using c19))
   (try (have c19b3 : ¬ ((t331 == 0) = t334) := by simpa using c19))
   clear c19
   (first | rw [c19b0] | (simp only [i64_w, i32_w]; rw [c19b0]) | rw [c19b1] | skip)
   have H' := Aside0.mk H
   clear H
   have hnb20 := NB328_329.out
   have hnc20 := NB329_328.out
   obtain ⟨hcz21_0, hcz21_1, hcz21_2, hcz21_3, hcz21_4⟩ := zc5 BK328
   obtain ⟨hfz21_0, hfz21_1, hfz21_2, hfz21_3, hfz21_4⟩ := zf5 BK328
   go_wp2_with (first | ((with_reducible refine gate_callee (f := 14) rfl ?_); refine goesL_ (some 35) rfl rfl Try.func14 (by kernel_rfl) rfl #[.agg #[.int .i64 a0_0, .int .i64 a0_1, .int .i64 a0_2, .int .i64 a0_3, .int .i64 a0_4]] rfl aO ?_; (with_reducible refine (meta_May.calls a0_0 a0_1 a0_2 a0_3 a0_4 t334 _ A18.out).mono ?_); rintro e w22 ⟨rfl, hb⟩; refine ⟨_, rfl, ?_⟩; replace BK328 := bb BK328 hb; replace BK329 := bb BK329 hb; replace HB := as_ (below_step bA hb); (try clear hb); (try clear hb2); (try clear hk); (try clear hi)))
   go_meet
   case rel => exact ⟨_, (true), (by first | rfl | (simp; done) | (simp [*]; done)), H', ⟨by first | omega | exact Nat.le_refl _⟩, ⟨by refine bx ?_; exact BK328.out⟩, ⟨by refine bx ?_; exact BK329.out⟩, ⟨by repeat (first | (with_reducible first | exact HB.out | apply below_alloc | apply pw_below_drewN | apply below_drew1 | refine below_set ?_ GE328.out | refine below_set ?_ GE329.out) | exact HB.out)⟩⟩
  rw [if_neg c19] at H
  have c19b0 : ((t331 == 0) != t334) = false := by simpa using c19
  (try (have c19b1 : decide ((t331 == 0) = t334) = true := by simpa using c19))
  (try (have c19b2 : ((t331 == 0) == t334) = true := by simpa using c19))
  clear c19
  (first | rw [c19b0] | (simp only [i64_w, i32_w]; rw [c19b0]) | rw [c19b1] | skip)
  by_cases c23 : t331 = 0
  rotate_left
  ·rw [if_neg c23] at H
   have c23b0 : (t331 == 0) = false := beq_eq_false_iff_ne.mpr c23
   (try (have c19t : t334 = true := by have h_ := c19b0; rw [c23b0] at h_; simpa using h_))
   (try (have c19t : t334 = false := by have h_ := c19b0; rw [c23b0] at h_; simpa using h_))
   (try (have c19t : t334 = true := by have h_ := c19b0; rw [c23b0] at h_; simpa using h_))
   (try (have c19t : t334 = false := by have h_ := c19b0; rw [c23b0] at h_; simpa using h_))
   have c23b1 : (t331 != 0) = true := bne_iff_ne.mpr c23
   have H' := Aside0.mk H
   clear H
   have hnb33 := NB328_329.out
   have hnc33 := NB329_328.out
   obtain ⟨hcz34_0, hcz34_1, hcz34_2, hcz34_3, hcz34_4⟩ := zc5 BK328
   obtain ⟨hfz34_0, hfz34_1, hfz34_2, hfz34_3, hfz34_4⟩ := zf5 BK328
   go_wp2_with (first | ((with_reducible refine gate_callee (f := 14) rfl ?_); refine goesL_ (some 35) rfl rfl Try.func14 (by kernel_rfl) rfl #[.agg #[.int .i64 a0_0, .int .i64 a0_1, .int .i64 a0_2, .int .i64 a0_3, .int .i64 a0_4]] rfl aO ?_; (with_reducible refine (meta_May.calls a0_0 a0_1 a0_2 a0_3 a0_4 t334 _ A18.out).mono ?_); rintro e w35 ⟨rfl, hb⟩; refine ⟨_, rfl, ?_⟩; replace BK328 := bb BK328 hb; replace BK329 := bb BK329 hb; replace HB := as_ (below_step bA hb); (try clear hb); (try clear hb2); (try clear hk); (try clear hi)))
   go_meet
   case rel => exact ⟨_, (false), (by first | rfl | (simp; done) | (simp [*]; done)), H', ⟨by first | omega | exact Nat.le_refl _⟩, ⟨by refine bx ?_; exact BK328.out⟩, ⟨by refine bx ?_; exact BK329.out⟩, ⟨by repeat (first | (with_reducible first | exact HB.out | apply below_alloc | apply pw_below_drewN | apply below_drew1 | refine below_set ?_ GE328.out | refine below_set ?_ GE329.out) | exact HB.out)⟩⟩
  rw [if_pos c23] at H
  have c23b0 : (t331 == 0) = true := beq_iff_eq.mpr c23
  (try (have c19t : t334 = true := by have h_ := c19b0; rw [c23b0] at h_; simpa using h_))
  (try (have c19t : t334 = false := by have h_ := c19b0; rw [c23b0] at h_; simpa using h_))
  (try (have c19t : t334 = true := by have h_ := c19b0; rw [c23b0] at h_; simpa using h_))
  (try (have c19t : t334 = false := by have h_ := c19b0; rw [c23b0] at h_; simpa using h_))
  have c23b1 : (t331 != 0) = false := bne_eq_false_iff_eq.mpr c23
  clear c23
  by_cases c24 : t333 = 0
  rotate_left
  ·rw [if_neg c24] at H
   have c24b0 : (t333 == 0) = false := beq_eq_false_iff_ne.mpr c24
   have c24b1 : (t333 != 0) = true := bne_iff_ne.mpr c24
   have H' := Aside0.mk H
   clear H
   have hnb30 := NB328_329.out
   have hnc30 := NB329_328.out
   obtain ⟨hcz31_0, hcz31_1, hcz31_2, hcz31_3, hcz31_4⟩ := zc5 BK328
   obtain ⟨hfz31_0, hfz31_1, hfz31_2, hfz31_3, hfz31_4⟩ := zf5 BK328
   go_wp2_with (first | ((with_reducible refine gate_callee (f := 14) rfl ?_); refine goesL_ (some 35) rfl rfl Try.func14 (by kernel_rfl) rfl #[.agg #[.int .i64 a0_0, .int .i64 a0_1, .int .i64 a0_2, .int .i64 a0_3, .int .i64 a0_4]] rfl aO ?_; (with_reducible refine (meta_May.calls a0_0 a0_1 a0_2 a0_3 a0_4 t334 _ A18.out).mono ?_); rintro e w32 ⟨rfl, hb⟩; refine ⟨_, rfl, ?_⟩; replace BK328 := bb BK328 hb; replace BK329 := bb BK329 hb; replace HB := as_ (below_step bA hb); (try clear hb); (try clear hb2); (try clear hk); (try clear hi)))
   go_meet
   case rel => exact ⟨_, (false), (by first | rfl | (simp; done) | (simp [*]; done)), H', ⟨by first | omega | exact Nat.le_refl _⟩, ⟨by refine bx ?_; exact BK328.out⟩, ⟨by refine bx ?_; exact BK329.out⟩, ⟨by repeat (first | (with_reducible first | exact HB.out | apply below_alloc | apply pw_below_drewN | apply below_drew1 | refine below_set ?_ GE328.out | refine below_set ?_ GE329.out) | exact HB.out)⟩⟩
  rw [if_pos c24] at H
  have c24b0 : (t333 == 0) = true := beq_iff_eq.mpr c24
  have c24b1 : (t333 != 0) = false := bne_eq_false_iff_eq.mpr c24
  clear c24
  have H' := Aside0.mk H
  clear H
  have hnb25 := NB328_329.out
  have hnc25 := NB329_328.out
  obtain ⟨hcz26_0, hcz26_1, hcz26_2, hcz26_3, hcz26_4⟩ := zc5 BK328
  obtain ⟨hfz26_0, hfz26_1, hfz26_2, hfz26_3, hfz26_4⟩ := zf5 BK328
  go_wp2_with (first | ((with_reducible refine gate_callee (f := 14) rfl ?_); refine goesL_ (some 35) rfl rfl Try.func14 (by kernel_rfl) rfl #[.agg #[.int .i64 a0_0, .int .i64 a0_1, .int .i64 a0_2, .int .i64 a0_3, .int .i64 a0_4]] rfl aO ?_; (with_reducible refine (meta_May.calls a0_0 a0_1 a0_2 a0_3 a0_4 t334 _ A18.out).mono ?_); rintro e w27 ⟨rfl, hb⟩; refine ⟨_, rfl, ?_⟩; replace BK328 := bb BK328 hb; replace BK329 := bb BK329 hb; replace HB := as_ (below_step bA hb); (try clear hb); (try clear hb2); (try clear hk); (try clear hi); obtain ⟨hcz28_0, hcz28_1, hcz28_2, hcz28_3, hcz28_4⟩ := zc5 BK328; obtain ⟨hfz28_0, hfz28_1, hfz28_2, hfz28_3, hfz28_4⟩ := zf5 BK328; obtain ⟨hcz29_0, hcz29_1, hcz29_2, hcz29_3, hcz29_4⟩ := zc5 BK329; obtain ⟨hfz29_0, hfz29_1, hfz29_2, hfz29_3, hfz29_4⟩ := zf5 BK329))
  go_meet
  case rel => exact ⟨_, (((t330.toList == t332.toList) != (a0_0 == a1_0 && (a0_1 == a1_1 && (a0_2 == a1_2 && (a0_3 == a1_3 && (a0_4 == a1_4))))))), (by first | rfl | (simp; done) | (simp [*]; done)), H', ⟨by first | omega | exact Nat.le_refl _⟩, ⟨by refine bx ?_; exact BK328.out⟩, ⟨by refine bx ?_; exact BK329.out⟩, ⟨by repeat (first | (with_reducible first | exact HB.out | apply below_alloc | apply pw_below_drewN | apply below_drew1 | refine below_set ?_ GE328.out | refine below_set ?_ GE329.out) | exact HB.out)⟩⟩
 case rest =>
  clear HC10
  try clear c1
  try clear c2
  try clear p2
  try clear c3
  try clear c4
  try clear c5
  try clear c5b0
  try clear c5b1
  try clear c6
  try clear c6b0
  try clear c6b1
  try clear c9
  try clear c13
  try clear c14
  try clear c19
  try clear c19b0
  try clear c19b1
  try clear c19b2
  try clear c20
  try clear c23
  try clear c23b0
  try clear c23b1
  try clear c24
  try clear c24b0
  try clear c24b1
  try clear c25
  try clear c30
  try clear c33
  try clear hcz14_0
  try clear hcz14_1
  try clear hcz14_2
  try clear hcz14_3
  try clear hcz14_4
  try clear hcz16_0
  try clear hcz16_1
  try clear hcz16_2
  try clear hcz16_3
  try clear hcz16_4
  try clear hcz21_0
  try clear hcz21_1
  try clear hcz21_2
  try clear hcz21_3
  try clear hcz21_4
  try clear hcz26_0
  try clear hcz26_1
  try clear hcz26_2
  try clear hcz26_3
  try clear hcz26_4
  try clear hcz28_0
  try clear hcz28_1
  try clear hcz28_2
  try clear hcz28_3
  try clear hcz28_4
  try clear hcz29_0
  try clear hcz29_1
  try clear hcz29_2
  try clear hcz29_3
  try clear hcz29_4
  try clear hcz31_0
  try clear hcz31_1
  try clear hcz31_2
  try clear hcz31_3
  try clear hcz31_4
  try clear hcz34_0
  try clear hcz34_1
  try clear hcz34_2
  try clear hcz34_3
  try clear hcz34_4
  try clear hfz14_0
  try clear hfz14_1
  try clear hfz14_2
  try clear hfz14_3
  try clear hfz14_4
  try clear hfz16_0
  try clear hfz16_1
  try clear hfz16_2
  try clear hfz16_3
  try clear hfz16_4
  try clear hfz21_0
  try clear hfz21_1
  try clear hfz21_2
  try clear hfz21_3
  try clear hfz21_4
  try clear hfz26_0
  try clear hfz26_1
  try clear hfz26_2
  try clear hfz26_3
  try clear hfz26_4
  try clear hfz28_0
  try clear hfz28_1
  try clear hfz28_2
  try clear hfz28_3
  try clear hfz28_4
  try clear hfz29_0
  try clear hfz29_1
  try clear hfz29_2
  try clear hfz29_3
  try clear hfz29_4
  try clear hfz31_0
  try clear hfz31_1
  try clear hfz31_2
  try clear hfz31_3
  try clear hfz31_4
  try clear hfz34_0
  try clear hfz34_1
  try clear hfz34_2
  try clear hfz34_3
  try clear hfz34_4
  obtain ⟨kq, x53_9, rfl, HA, HJ9, BK328, BK329, HB⟩ := hcut
  cases kq with
  | zero => exact absurd HA.out (by simp [withylaw13_MetaBack.j0])
  | succ kj9 =>
   have H := HA.out
   clear HA
   simp only [withylaw13_MetaBack.j0] at H
   by_cases c36 : x53_9 = true
   ·subst c36
    have H1 : (none) = some r := by rw [if_pos rfl] at H; exact H
    clear H
    have H := H1
    clear H1
    exact absurd H (by simp)
   replace c36 := Bool.eq_false_iff.mpr c36
   subst c36
   have H1 : (if t331 = 0 then ((meta_Decode.f kj9 t330).bind fun bt335 => (if bt335.2.2.2.2.2 = 0 then (if (!(bt335.1 == a0_0) || (!(bt335.2.1 == a0_1) || (!(bt335.2.2.1 == a0_2) || (!(bt335.2.2.2.1 == a0_3) || (!(bt335.2.2.2.2.1 == a0_4)))))) = true then (none) else (if (t330.size : Int) = a0_0 then (withylaw13_MetaBack.j1 kj9 js7) else (none))) else (none))) else (withylaw13_MetaBack.j1 kj9 js7)) = some r := by rw [if_neg (show ¬ (false = true) by decide)] at H; exact H
   clear H
   have H := H1
   clear H1
   have HC37 := Aside0.mk H
   clear H
   go_upto_if 55 with (fail)
   go_cut [] (fun wc => ∃ (kq : Nat), Aside0 (withylaw13_MetaBack.j1 kq js7 = some r) ∧ Aside0 (kq ≤ kj9) ∧ Aside0 (wc.heap[gb328]? = some (.cells #[.int .i64 a0_0, .int .i64 a0_1, .int .i64 a0_2, .int .i64 a0_3, .int .i64 a0_4] 23 (0, 0))) ∧ Aside0 (wc.heap[gb329]? = some (.cells #[.int .i64 a1_0, .int .i64 a1_1, .int .i64 a1_2, .int .i64 a1_3, .int .i64 a1_4] 23 (0, 0))) ∧ Aside0 (Below w.heap.size w wc))
   case first =>
    have H := HC37.out
    clear HC37
    by_cases c38 : t331 = 0
    rotate_left
    ·rw [if_neg c38] at H
     have c38b0 : (t331 == 0) = false := beq_eq_false_iff_ne.mpr c38
     (try (have c19t : t334 = true := by have h_ := c19b0; rw [c38b0] at h_; simpa using h_))
     (try (have c19t : t334 = false := by have h_ := c19b0; rw [c38b0] at h_; simpa using h_))
     (try (have c19t : t334 = true := by have h_ := c19b0; rw [c38b0] at h_; simpa using h_))
     (try (have c19t : t334 = false := by have h_ := c19b0; rw [c38b0] at h_; simpa using h_))
     have c38b1 : (t331 != 0) = true := bne_iff_ne.mpr c38
     (first | rw [c38b0] | (simp only [i64_w, i32_w]; rw [c38b0]) | rw [c38b1] | skip)
     have H' := Aside0.mk H
     clear H
     go_wp2
     go_meet
     case rel => exact ⟨_, H', ⟨by have := HJ9.out; first | omega | exact Nat.le_refl _⟩, ⟨by refine bx ?_; exact BK328.out⟩, ⟨by refine bx ?_; exact BK329.out⟩, ⟨by repeat (first | (with_reducible first | exact HB.out | apply below_alloc | apply pw_below_drewN | apply below_drew1 | refine below_set ?_ GE328.out | refine below_set ?_ GE329.out) | exact HB.out)⟩⟩
    rw [if_pos c38] at H
    have c38b0 : (t331 == 0) = true := beq_iff_eq.mpr c38
    (try (have c19t : t334 = true := by have h_ := c19b0; rw [c38b0] at h_; simpa using h_))
    (try (have c19t : t334 = false := by have h_ := c19b0; rw [c38b0] at h_; simpa using h_))
    (try (have c19t : t334 = true := by have h_ := c19b0; rw [c38b0] at h_; simpa using h_))
    (try (have c19t : t334 = false := by have h_ := c19b0; rw [c38b0] at h_; simpa using h_))
    have c38b1 : (t331 != 0) = false := bne_eq_false_iff_eq.mpr c38
    clear c38
    (first | rw [c38b0] | (simp only [i64_w, i32_w]; rw [c38b0]) | rw [c38b1] | skip)
    replace H := bM H
    obtain ⟨⟨t335, t336, t337, t338, t339, t340⟩, A390, H⟩ := H
    replace H : (if t340 = 0 then (if (!(t335 == a0_0) || (!(t336 == a0_1) || (!(t337 == a0_2) || (!(t338 == a0_3) || (!(t339 == a0_4)))))) = true then (none) else (if (t330.size : Int) = a0_0 then (withylaw13_MetaBack.j1 kj9 js7) else (none))) else (none)) = some r := H
    have A39 := Aside0.mk A390
    clear A390
    by_cases c40 : t340 = 0
    rotate_left
    ·rw [if_neg c40] at H
     exact absurd H (by simp)
    rw [if_pos c40] at H
    have c40b0 : (t340 == 0) = true := beq_iff_eq.mpr c40
    have c40b1 : (t340 != 0) = false := bne_eq_false_iff_eq.mpr c40
    clear c40
    by_cases c41 : (!(t335 == a0_0) || (!(t336 == a0_1) || (!(t337 == a0_2) || (!(t338 == a0_3) || (!(t339 == a0_4)))))) = true
    ·rw [if_pos c41] at H
     exact absurd H (by simp)
    ·rw [if_neg c41] at H
     have c41b0 : (!(t335 == a0_0) || (!(t336 == a0_1) || (!(t337 == a0_2) || (!(t338 == a0_3) || (!(t339 == a0_4)))))) = false := by simpa using c41
     clear c41
     by_cases c42 : (t330.size : Int) = a0_0
     rotate_left
     ·rw [if_neg c42] at H
      exact absurd H (by simp)
     rw [if_pos c42] at H
     have c42b0 : ((t330.size : Int) == a0_0) = true := beq_iff_eq.mpr c42
     have c42b1 : ((t330.size : Int) != a0_0) = false := bne_eq_false_iff_eq.mpr c42
     clear c42
     have H' := Aside0.mk H
     clear H
     go_wp2_with (first | ((with_reducible refine gate_callee (f := 12) rfl ?_); refine goesL_ (some 58) rfl rfl Try.func12 (by kernel_rfl) rfl #[.string t330] rfl aO ?_; (with_reducible refine (meta_Decode.calls kj9 t330 t335 t336 t337 t338 t339 t340 _ A39.out).mono ?_); rintro e w43 ⟨rfl, hb⟩; refine ⟨_, rfl, ?_⟩; replace BK328 := bb BK328 hb; replace BK329 := bb BK329 hb; replace HB := as_ (below_step bA hb); (try clear hb); (try clear hb2); (try clear hk); (try clear hi)) | ((with_reducible refine gate_dst (N := 11) rfl ?_); (try (refine gate_guard (by rfl) ?_; dsimp only)); refine box_event (by rfl) (N := 11) (by rfl) (cs := #[.int .i64 0, .int .i64 0, .int .i64 0, .int .i64 0, .int .i64 0]) (t := 23) gS ?_; intro gb341 hg w44 hbox hb; have BK341 := as_ (hbox); have GW341 := gw hg bA; have GE341 := gw hg bA; have NB328_341 := nl BK328 hg; have NB341_328 := ng BK328 hg; have NB329_341 := nl BK329 hg; have NB341_329 := ng BK329 hg; replace BK328 := bb BK328 hb; replace BK329 := bb BK329 hb; replace HB := as_ (below_step bA hb); clear hb hbox hg; have hnb45 := NB341_328.out; have hnc45 := NB328_341.out; have hnb46 := NB341_329.out; have hnc46 := NB329_341.out; obtain ⟨hcz47_0, hcz47_1, hcz47_2, hcz47_3, hcz47_4⟩ := zc5 BK341; obtain ⟨hfz47_0, hfz47_1, hfz47_2, hfz47_3, hfz47_4⟩ := zf5 BK341; have hnb48 := NB328_329.out; have hnc48 := NB329_328.out; obtain ⟨hcz49_0, hcz49_1, hcz49_2, hcz49_3, hcz49_4⟩ := zc5 BK328; obtain ⟨hfz49_0, hfz49_1, hfz49_2, hfz49_3, hfz49_4⟩ := zf5 BK328))
     go_meet
     case rel => exact ⟨_, H', ⟨by have := HJ9.out; first | omega | exact Nat.le_refl _⟩, ⟨by refine bx ?_; refine blk_far ?_ NB328_341.out _; refine bx ?_; refine blk_far ?_ NB328_341.out _; refine bx ?_; refine blk_far ?_ NB328_341.out _; refine bx ?_; refine blk_far ?_ NB328_341.out _; refine bx ?_; refine blk_far ?_ NB328_341.out _; refine bx ?_; exact BK328.out⟩, ⟨by refine bx ?_; refine blk_far ?_ NB329_341.out _; refine bx ?_; refine blk_far ?_ NB329_341.out _; refine bx ?_; refine blk_far ?_ NB329_341.out _; refine bx ?_; refine blk_far ?_ NB329_341.out _; refine bx ?_; refine blk_far ?_ NB329_341.out _; refine bx ?_; exact BK329.out⟩, ⟨by repeat (first | (with_reducible first | exact HB.out | apply below_alloc | apply pw_below_drewN | apply below_drew1 | refine below_set ?_ GE328.out | refine below_set ?_ GE329.out | refine below_set ?_ GE341.out) | exact HB.out)⟩⟩
   case rest =>
    clear HC37
    try clear c1
    try clear c2
    try clear p2
    try clear c3
    try clear c4
    try clear c5
    try clear c5b0
    try clear c5b1
    try clear c6
    try clear c6b0
    try clear c6b1
    try clear c9
    try clear c12
    try clear c13
    try clear c14
    try clear c19
    try clear c19b0
    try clear c19b1
    try clear c19b2
    try clear c20
    try clear c23
    try clear c23b0
    try clear c23b1
    try clear c24
    try clear c24b0
    try clear c24b1
    try clear c25
    try clear c30
    try clear c33
    try clear c36
    try clear c38
    try clear c38b0
    try clear c38b1
    try clear c40
    try clear c40b0
    try clear c40b1
    try clear c41
    try clear c41b0
    try clear c42
    try clear c42b0
    try clear c42b1
    try clear c45
    try clear c46
    try clear c48
    try clear hcz14_0
    try clear hcz14_1
    try clear hcz14_2
    try clear hcz14_3
    try clear hcz14_4
    try clear hcz16_0
    try clear hcz16_1
    try clear hcz16_2
    try clear hcz16_3
    try clear hcz16_4
    try clear hcz21_0
    try clear hcz21_1
    try clear hcz21_2
    try clear hcz21_3
    try clear hcz21_4
    try clear hcz26_0
    try clear hcz26_1
    try clear hcz26_2
    try clear hcz26_3
    try clear hcz26_4
    try clear hcz28_0
    try clear hcz28_1
    try clear hcz28_2
    try clear hcz28_3
    try clear hcz28_4
    try clear hcz29_0
    try clear hcz29_1
    try clear hcz29_2
    try clear hcz29_3
    try clear hcz29_4
    try clear hcz31_0
    try clear hcz31_1
    try clear hcz31_2
    try clear hcz31_3
    try clear hcz31_4
    try clear hcz34_0
    try clear hcz34_1
    try clear hcz34_2
    try clear hcz34_3
    try clear hcz34_4
    try clear hcz47_0
    try clear hcz47_1
    try clear hcz47_2
    try clear hcz47_3
    try clear hcz47_4
    try clear hcz49_0
    try clear hcz49_1
    try clear hcz49_2
    try clear hcz49_3
    try clear hcz49_4
    try clear hfz14_0
    try clear hfz14_1
    try clear hfz14_2
    try clear hfz14_3
    try clear hfz14_4
    try clear hfz16_0
    try clear hfz16_1
    try clear hfz16_2
    try clear hfz16_3
    try clear hfz16_4
    try clear hfz21_0
    try clear hfz21_1
    try clear hfz21_2
    try clear hfz21_3
    try clear hfz21_4
    try clear hfz26_0
    try clear hfz26_1
    try clear hfz26_2
    try clear hfz26_3
    try clear hfz26_4
    try clear hfz28_0
    try clear hfz28_1
    try clear hfz28_2
    try clear hfz28_3
    try clear hfz28_4
    try clear hfz29_0
    try clear hfz29_1
    try clear hfz29_2
    try clear hfz29_3
    try clear hfz29_4
    try clear hfz31_0
    try clear hfz31_1
    try clear hfz31_2
    try clear hfz31_3
    try clear hfz31_4
    try clear hfz34_0
    try clear hfz34_1
    try clear hfz34_2
    try clear hfz34_3
    try clear hfz34_4
    try clear hfz47_0
    try clear hfz47_1
    try clear hfz47_2
    try clear hfz47_3
    try clear hfz47_4
    try clear hfz49_0
    try clear hfz49_1
    try clear hfz49_2
    try clear hfz49_3
    try clear hfz49_4
    try clear p2
    obtain ⟨kq, HA, HJ36, BK328, BK329, HB⟩ := hcut
    cases kq with
    | zero => exact absurd HA.out (by simp [withylaw13_MetaBack.j1])
    | succ kj36 =>
     have H := HA.out
     clear HA
     simp only [withylaw13_MetaBack.j1] at H
     replace H := bM H
     obtain ⟨⟨t342, t343, t344, t345, t346, t347⟩, A500, H⟩ := H
     replace H : (if t347 = 0 then ((meta_Encode.f kj36 t342 t343 t344 t345 t346).bind fun bt349 => (if bt349.2 = 0 then (if bt349.1.toList = js7.toList then ((meta_May.f t342 t343 t344 t345 t346).bind fun t351 => (if t351 = true then ((withylaw13_fixed.f kj36).bind fun t352 => (some t352)) else (none))) else (none)) else (none))) else (if t347 = 3 then (if (t342 == 0 && (t343 == 0 && (t344 == 0 && (t345 == 0 && (t346 == 0))))) = true then ((withylaw13_fixed.f kj36).bind fun t353 => (some t353)) else (none)) else (none))) = some r := H
     have A50 := Aside0.mk A500
     clear A500
     by_cases c51 : t347 = 0
     rotate_left
     ·rw [if_neg c51] at H
      have c51b0 : (t347 == 0) = false := beq_eq_false_iff_ne.mpr c51
      have c51b1 : (t347 != 0) = true := bne_iff_ne.mpr c51
      by_cases c67 : t347 = 3
      rotate_left
      ·rw [if_neg c67] at H
       exact absurd H (by simp)
      rw [if_pos c67] at H
      have c67b0 : (t347 == 3) = true := beq_iff_eq.mpr c67
      have c67b1 : (t347 != 3) = false := bne_eq_false_iff_eq.mpr c67
      clear c67
      by_cases c68 : (t342 == 0 && (t343 == 0 && (t344 == 0 && (t345 == 0 && (t346 == 0))))) = true
      rotate_left
      ·rw [if_neg c68] at H
       exact absurd H (by simp)
      rw [if_pos c68] at H
      have c68b0 : (t342 == 0 && (t343 == 0 && (t344 == 0 && (t345 == 0 && (t346 == 0))))) = true := c68
      (try (have c68b1 : t342 = 0 && (t343 == 0 && (t344 == 0 && (t345 == 0 && (t346 == 0)))) := by simpa using c68))
      (try (have c68b2 : decide (t342 = 0 && (t343 == 0 && (t344 == 0 && (t345 == 0 && (t346 == 0))))) = true := by simpa using c68))
      (try (have c68b3 : (t342 == 0 && (t343 == 0 && (t344 == 0 && (t345 == 0 && (t346 == 0))))) = true := by simpa using c68))
      clear c68
      replace H := bM H
      obtain ⟨t353, A690, H⟩ := H
      replace H : (some t353) = some r := H
      have A69 := Aside0.mk A690
      clear A690
      obtain rfl := Option.some.inj H
      go_wp2_with (first | ((with_reducible refine gate_callee (f := 12) rfl ?_); refine goesL_ (some 77) rfl rfl Try.func12 (by kernel_rfl) rfl #[.string js7] rfl aO ?_; (with_reducible refine (meta_Decode.calls kj36 js7 t342 t343 t344 t345 t346 t347 _ A50.out).mono ?_); rintro e w70 ⟨rfl, hb⟩; refine ⟨_, rfl, ?_⟩; replace BK328 := bb BK328 hb; replace BK329 := bb BK329 hb; replace HB := as_ (below_step bA hb); (try clear hb); (try clear hb2); (try clear hk); (try clear hi)) | ((with_reducible refine gate_dst (N := 13) rfl ?_); (try (refine gate_guard (by rfl) ?_; dsimp only)); refine box_event (by rfl) (N := 13) (by rfl) (cs := #[.int .i64 0, .int .i64 0, .int .i64 0, .int .i64 0, .int .i64 0]) (t := 23) gS ?_; intro gb348 hg w71 hbox hb; have BK348 := as_ (hbox); have GW348 := gw hg bA; have GE348 := gw hg bA; have NB328_348 := nl BK328 hg; have NB348_328 := ng BK328 hg; have NB329_348 := nl BK329 hg; have NB348_329 := ng BK329 hg; replace BK328 := bb BK328 hb; replace BK329 := bb BK329 hb; replace HB := as_ (below_step bA hb); clear hb hbox hg; have hnb72 := NB348_328.out; have hnc72 := NB328_348.out; have hnb73 := NB348_329.out; have hnc73 := NB329_348.out; obtain ⟨hcz74_0, hcz74_1, hcz74_2, hcz74_3, hcz74_4⟩ := zc5 BK348; obtain ⟨hfz74_0, hfz74_1, hfz74_2, hfz74_3, hfz74_4⟩ := zf5 BK348) | (go_at_call 18; (with_reducible refine (withylaw13_fixed.calls kj36  t353 _ A69.out).mono ?_); rintro e w75 ⟨rfl, hb⟩; have n0_ := as_ (blk_below (g := gb328) (o := .cells #[.int .i64 a0_0, .int .i64 a0_1, .int .i64 a0_2, .int .i64 a0_3, .int .i64 a0_4] 23 (0, 0)) (by refine bx ?_; refine blk_far ?_ NB328_348.out _; refine bx ?_; refine blk_far ?_ NB328_348.out _; refine bx ?_; refine blk_far ?_ NB328_348.out _; refine bx ?_; refine blk_far ?_ NB328_348.out _; refine bx ?_; refine blk_far ?_ NB328_348.out _; refine bx ?_; exact BK328.out) hb); have n1_ := as_ (blk_below (g := gb329) (o := .cells #[.int .i64 a1_0, .int .i64 a1_1, .int .i64 a1_2, .int .i64 a1_3, .int .i64 a1_4] 23 (0, 0)) (by refine bx ?_; refine blk_far ?_ NB329_348.out _; refine bx ?_; refine blk_far ?_ NB329_348.out _; refine bx ?_; refine blk_far ?_ NB329_348.out _; refine bx ?_; refine blk_far ?_ NB329_348.out _; refine bx ?_; refine blk_far ?_ NB329_348.out _; refine bx ?_; exact BK329.out) hb); have n2_ := as_ (blk_below (g := gb348) (o := .cells #[.int .i64 t342, .int .i64 t343, .int .i64 t344, .int .i64 t345, .int .i64 t346] 23 (0, 0)) (by refine bx ?_; refine blk_put (cs := #[.int .i64 t342, .int .i64 t343, .int .i64 t344, .int .i64 t345, .int .i64 0]) ?_ 4 _ rfl; refine bx ?_; refine blk_put (cs := #[.int .i64 t342, .int .i64 t343, .int .i64 t344, .int .i64 0, .int .i64 0]) ?_ 3 _ rfl; refine bx ?_; refine blk_put (cs := #[.int .i64 t342, .int .i64 t343, .int .i64 0, .int .i64 0, .int .i64 0]) ?_ 2 _ rfl; refine bx ?_; refine blk_put (cs := #[.int .i64 t342, .int .i64 0, .int .i64 0, .int .i64 0, .int .i64 0]) ?_ 1 _ rfl; refine bx ?_; refine blk_put (cs := #[.int .i64 0, .int .i64 0, .int .i64 0, .int .i64 0, .int .i64 0]) ?_ 0 _ rfl; refine bx ?_; exact BK348.out) hb); have n3_ := as_ (below_step bA hb); clear BK328; clear BK329; clear BK348; clear HB; have BK328 := n0_; have BK329 := n1_; have BK348 := n2_; have HB := n3_; clear n0_ n1_ n2_ n3_; (try clear hb); (try clear hb2); (try clear hk); (try clear hi)))
      go_ret
      exact ⟨by first | rfl | (simp [errW_none, errW_some] <;> rfl) | (simp only [← hji4, ← hjs7]; first | rfl | (simp [errW_none, errW_some] <;> rfl)) | (simp [*, errW_none, errW_some] <;> rfl), by repeat (first | (with_reducible first | exact HB.out | apply below_alloc | apply pw_below_drewN | apply below_drew1 | refine below_set ?_ GE328.out | refine below_set ?_ GE329.out | refine below_set ?_ GE348.out) | exact HB.out)⟩
     rw [if_pos c51] at H
     have c51b0 : (t347 == 0) = true := beq_iff_eq.mpr c51
     have c51b1 : (t347 != 0) = false := bne_eq_false_iff_eq.mpr c51
     clear c51
     replace H := bM H
     obtain ⟨⟨t349, t350⟩, A520, H⟩ := H
     replace H : (if t350 = 0 then (if t349.toList = js7.toList then ((meta_May.f t342 t343 t344 t345 t346).bind fun t351 => (if t351 = true then ((withylaw13_fixed.f kj36).bind fun t352 => (some t352)) else (none))) else (none)) else (none)) = some r := H
     have A52 := Aside0.mk A520
     clear A520
     by_cases c53 : t350 = 0
     rotate_left
     ·rw [if_neg c53] at H
      exact absurd H (by simp)
     rw [if_pos c53] at H
     have c53b0 : (t350 == 0) = true := beq_iff_eq.mpr c53
     have c53b1 : (t350 != 0) = false := bne_eq_false_iff_eq.mpr c53
     clear c53
     by_cases c54 : t349.toList = js7.toList
     rotate_left
     ·rw [if_neg c54] at H
      exact absurd H (by simp)
     rw [if_pos c54] at H
     have c54b0 : (t349.toList == js7.toList) = true := beq_iff_eq.mpr c54
     have c54b1 : (t349.toList != js7.toList) = false := bne_eq_false_iff_eq.mpr c54
     clear c54
     replace H := bM H
     obtain ⟨t351, A550, H⟩ := H
     replace H : (if t351 = true then ((withylaw13_fixed.f kj36).bind fun t352 => (some t352)) else (none)) = some r := H
     have A55 := Aside0.mk A550
     clear A550
     by_cases c56 : t351 = true
     rotate_left
     ·replace c56 := Bool.eq_false_iff.mpr c56
      subst c56
      have H1 : (none) = some r := by rw [if_neg (show ¬ (false = true) by decide)] at H; exact H
      clear H
      have H := H1
      clear H1
      exact absurd H (by simp)
     subst c56
     have H1 : ((withylaw13_fixed.f kj36).bind fun t352 => (some t352)) = some r := by rw [if_pos rfl] at H; exact H
     clear H
     have H := H1
     clear H1
     replace H := bM H
     obtain ⟨t352, A570, H⟩ := H
     replace H : (some t352) = some r := H
     have A57 := Aside0.mk A570
     clear A570
     obtain rfl := Option.some.inj H
     go_wp2_with (first | ((with_reducible refine gate_callee (f := 12) rfl ?_); refine goesL_ (some 77) rfl rfl Try.func12 (by kernel_rfl) rfl #[.string js7] rfl aO ?_; (with_reducible refine (meta_Decode.calls kj36 js7 t342 t343 t344 t345 t346 t347 _ A50.out).mono ?_); rintro e w58 ⟨rfl, hb⟩; refine ⟨_, rfl, ?_⟩; replace BK328 := bb BK328 hb; replace BK329 := bb BK329 hb; replace HB := as_ (below_step bA hb); (try clear hb); (try clear hb2); (try clear hk); (try clear hi)) | ((with_reducible refine gate_dst (N := 13) rfl ?_); (try (refine gate_guard (by rfl) ?_; dsimp only)); refine box_event (by rfl) (N := 13) (by rfl) (cs := #[.int .i64 0, .int .i64 0, .int .i64 0, .int .i64 0, .int .i64 0]) (t := 23) gS ?_; intro gb348 hg w59 hbox hb; have BK348 := as_ (hbox); have GW348 := gw hg bA; have GE348 := gw hg bA; have NB328_348 := nl BK328 hg; have NB348_328 := ng BK328 hg; have NB329_348 := nl BK329 hg; have NB348_329 := ng BK329 hg; replace BK328 := bb BK328 hb; replace BK329 := bb BK329 hb; replace HB := as_ (below_step bA hb); clear hb hbox hg; have hnb60 := NB348_328.out; have hnc60 := NB328_348.out; have hnb61 := NB348_329.out; have hnc61 := NB329_348.out; obtain ⟨hcz62_0, hcz62_1, hcz62_2, hcz62_3, hcz62_4⟩ := zc5 BK348; obtain ⟨hfz62_0, hfz62_1, hfz62_2, hfz62_3, hfz62_4⟩ := zf5 BK348) | ((with_reducible refine gate_callee (f := 9) rfl ?_); refine goesL_ (some 94) rfl rfl Try.func9 (by kernel_rfl) rfl #[.agg #[.int .i64 t342, .int .i64 t343, .int .i64 t344, .int .i64 t345, .int .i64 t346]] rfl aO ?_; (with_reducible refine (meta_Encode.calls kj36 t342 t343 t344 t345 t346 t349 t350 _ A52.out).mono ?_); rintro e w63 ⟨rfl, hb⟩; refine ⟨_, rfl, ?_⟩; have n0_ := as_ (blk_below (g := gb328) (o := .cells #[.int .i64 a0_0, .int .i64 a0_1, .int .i64 a0_2, .int .i64 a0_3, .int .i64 a0_4] 23 (0, 0)) (by refine bx ?_; refine blk_far ?_ NB328_348.out _; refine bx ?_; refine blk_far ?_ NB328_348.out _; refine bx ?_; refine blk_far ?_ NB328_348.out _; refine bx ?_; refine blk_far ?_ NB328_348.out _; refine bx ?_; refine blk_far ?_ NB328_348.out _; refine bx ?_; exact BK328.out) hb); have n1_ := as_ (blk_below (g := gb329) (o := .cells #[.int .i64 a1_0, .int .i64 a1_1, .int .i64 a1_2, .int .i64 a1_3, .int .i64 a1_4] 23 (0, 0)) (by refine bx ?_; refine blk_far ?_ NB329_348.out _; refine bx ?_; refine blk_far ?_ NB329_348.out _; refine bx ?_; refine blk_far ?_ NB329_348.out _; refine bx ?_; refine blk_far ?_ NB329_348.out _; refine bx ?_; refine blk_far ?_ NB329_348.out _; refine bx ?_; exact BK329.out) hb); have n2_ := as_ (blk_below (g := gb348) (o := .cells #[.int .i64 t342, .int .i64 t343, .int .i64 t344, .int .i64 t345, .int .i64 t346] 23 (0, 0)) (by refine bx ?_; refine blk_put (cs := #[.int .i64 t342, .int .i64 t343, .int .i64 t344, .int .i64 t345, .int .i64 0]) ?_ 4 _ rfl; refine bx ?_; refine blk_put (cs := #[.int .i64 t342, .int .i64 t343, .int .i64 t344, .int .i64 0, .int .i64 0]) ?_ 3 _ rfl; refine bx ?_; refine blk_put (cs := #[.int .i64 t342, .int .i64 t343, .int .i64 0, .int .i64 0, .int .i64 0]) ?_ 2 _ rfl; refine bx ?_; refine blk_put (cs := #[.int .i64 t342, .int .i64 0, .int .i64 0, .int .i64 0, .int .i64 0]) ?_ 1 _ rfl; refine bx ?_; refine blk_put (cs := #[.int .i64 0, .int .i64 0, .int .i64 0, .int .i64 0, .int .i64 0]) ?_ 0 _ rfl; refine bx ?_; exact BK348.out) hb); have n3_ := as_ (below_step bA hb); clear BK328; clear BK329; clear BK348; clear HB; have BK328 := n0_; have BK329 := n1_; have BK348 := n2_; have HB := n3_; clear n0_ n1_ n2_ n3_; (try clear hb); (try clear hb2); (try clear hk); (try clear hi); obtain ⟨hcz64_0, hcz64_1, hcz64_2, hcz64_3, hcz64_4⟩ := zc5 BK348; obtain ⟨hfz64_0, hfz64_1, hfz64_2, hfz64_3, hfz64_4⟩ := zf5 BK348) | (go_at_call 14; (with_reducible refine (meta_May.calls t342 t343 t344 t345 t346 true _ A55.out).mono ?_); rintro e w65 ⟨rfl, hb⟩; replace BK328 := bb BK328 hb; replace BK329 := bb BK329 hb; replace BK348 := bb BK348 hb; replace HB := as_ (below_step bA hb); (try clear hb); (try clear hb2); (try clear hk); (try clear hi)) | (go_at_call 18; (with_reducible refine (withylaw13_fixed.calls kj36  t352 _ A57.out).mono ?_); rintro e w66 ⟨rfl, hb⟩; replace BK328 := bb BK328 hb; replace BK329 := bb BK329 hb; replace BK348 := bb BK348 hb; replace HB := as_ (below_step bA hb); (try clear hb); (try clear hb2); (try clear hk); (try clear hi)))
     go_ret
     exact ⟨by first | rfl | (simp [errW_none, errW_some] <;> rfl) | (simp only [← hji4, ← hjs7]; first | rfl | (simp [errW_none, errW_some] <;> rfl)) | (simp [*, errW_none, errW_some] <;> rfl), by repeat (first | (with_reducible first | exact HB.out | apply below_alloc | apply pw_below_drewN | apply below_drew1 | refine below_set ?_ GE328.out | refine below_set ?_ GE329.out | refine below_set ?_ GE348.out) | exact HB.out)⟩
end Go.Proofs.Ytnkndnpnjbcaoaa.P
