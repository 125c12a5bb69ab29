/- What is proved here: for functions of the Go text, a Lean function each, and that the call comes to just what it answers. Conditions: as each contract names them. Written by wip/tools/myprint.py, a driver of the print of the kit. -/
import Derived.Test.YthaicofleloplaaDoorP0
import Derived.Test.YthaicofleloplaaDoorP3
import Derived.Test.YthaicofleloplaaDoorP5
import Derived.Test.YthaicofleloplaaDoorP6
import Derived.Test.YthaicofleloplaaDoorP7
import Derived.Test.YthaicofleloplaaDoorP12
import Derived.Test.YthaicofleloplaaDoorWAbbr
namespace Go.Proofs.YthaicofleloplaaDoor.P
open Go.RowKit Go.Proofs.YthaicofleloplaaDoorW.PrintWords Go.Proofs.YthaicofleloplaaDoorW.PrintLast Go.Proofs.YthaicofleloplaaDoorW.PrintMore Go.Proofs.YthaicofleloplaaDoorW.Abbr
-- PACKED
attribute [local go_sem] max2_int min2_int max_two min_two max_three min_three max_four min_four Go.Proofs.YthaicofleloplaaDoorLaws.str_leq Go.Proofs.YthaicofleloplaaDoorLaws.str_gtr Go.Proofs.YthaicofleloplaaDoorLaws.str_geq Go.Proofs.YthaicofleloplaaDoorLaws.max2_str Go.Proofs.YthaicofleloplaaDoorLaws.min2_str   -- for this text's walks alone
set_option linter.unusedVariables false
set_option linter.unusedSimpArgs false

/-! ### withylaw04_KeyMore: function 8 -/
def withylaw04_KeyMore.j0 : Nat → List (S51) → List (S51) → List (S51) → ByteArray → ByteArray → ByteArray → Bool → Option (Bool)
 | 0, _, _, _, _, _, _, _ => none
 | k + 1, x0, x1, x7, x8, x10, x12, x51 => if x51 = true then ((withylaw04_right.f k x7).bind fun t441 => (if t441 = true then ((withylaw04_right.f k x1).bind fun t442 => (if t442 = true then (none) else ((withylaw04_fixed.f k).bind fun t443 => (some t443)))) else ((withylaw04_fixed.f k).bind fun t444 => (some t444)))) else (if (x1.length : Int) ≥ (x0.length : Int) then (if 0 ≤ (mn (x0.length : Int) (x1.length : Int)) then (if (mn (x0.length : Int) (x1.length : Int)) ≤ (x1.length : Int) then ((withylaw04_Ref.f k (x1.take ((mn (x0.length : Int) (x1.length : Int)) : Int).toNat)).bind fun t449 => ((withylaw04_Ref.f k x0).bind fun t452 => ((withyref04_Same.f k t449 t452).bind fun t455 => (if (Op.bytesLess x8.toList x10.toList) = true then ((key_Compare.f k x0 x7).bind fun t456 => (if t456 = (-1) then (if t455 = true then ((withylaw04_fixed.f k).bind fun t457 => (some t457)) else (if ((Op.bytesLess x8.toList x12.toList) == (Op.bytesLess x10.toList x12.toList)) = true then ((withylaw04_fixed.f k).bind fun t458 => (some t458)) else (none))) else (none))) else (none))))) else (none)) else (none)) else (if (Op.bytesLess x8.toList x10.toList) = true then ((key_Compare.f k x0 x7).bind fun t459 => (if t459 = (-1) then (if ((Op.bytesLess x8.toList x12.toList) == (Op.bytesLess x10.toList x12.toList)) = true then ((withylaw04_fixed.f k).bind fun t460 => (some t460)) else (none)) else (none))) else (none)))
def withylaw04_KeyMore.f (k : Nat) (l0 : List (S51)) (l1 : List (S51)) (a2_0 : Int) (a2_1 : Int) (a2_2 : Int) (a2_3 : ByteArray) : Option (Bool) := (withylaw04_Cut.f k l0).bind fun t414 => ((withylaw04_Cut.f k l1).bind fun t417 => ((some (([] : List (S51)) : List (S51))).bind fun y420 => (if y420.length + t414.length < 3518437208883 then ((some (y420 ++ t414 : List (S51))).bind fun y423 => ((withylaw04_Cut.f k (([(⟨a2_0, a2_1, a2_2, a2_3⟩ : S51)] : List (S51)))).bind fun t429 => (if y423.length + t429.length < 3518437208883 then ((some (y423 ++ t429 : List (S51))).bind fun y432 => ((key_Put.f k t414).bind fun bt435 => ((key_Put.f k y432).bind fun bt437 => ((key_Put.f k t417).bind fun bt439 => (if bt435.2 = 0 then (if bt437.2 = 0 then (withylaw04_KeyMore.j0 k t414 t417 y432 bt435.1 bt437.1 bt439.1 (bt439.2 != 0)) else (withylaw04_KeyMore.j0 k t414 t417 y432 bt435.1 bt437.1 bt439.1 true)) else (withylaw04_KeyMore.j0 k t414 t417 y432 bt435.1 bt437.1 bt439.1 true)))))) else (none)))) else (none))))
theorem withylaw04_KeyMore.mono_l : ∀ k, (∀ y0 y1 y2 y3 y4 y5 y6, LeO (withylaw04_KeyMore.j0 k y0 y1 y2 y3 y4 y5 y6) (withylaw04_KeyMore.j0 (k + 1) y0 y1 y2 y3 y4 y5 y6))
 | 0 => fun _ _ _ _ _ _ _ r h => by simp [withylaw04_KeyMore.j0] at h
 | k + 1 => by
  have ih0 := withylaw04_KeyMore.mono_l k
  ·intro y0 y1 y2 y3 y4 y5 y6
   unfold withylaw04_KeyMore.j0
   repeat' first
   | (with_reducible exact ih0 _ _ _ _ _ _ _)
   | (with_reducible exact key_Compare.mono _ _ _)
   | (with_reducible exact key_Put.mono _ _)
   | (with_reducible exact withylaw04_Cut.mono _ _)
   | (with_reducible exact withylaw04_Ref.mono _ _)
   | (with_reducible exact withylaw04_fixed.mono _)
   | (with_reducible exact withylaw04_right.mono _ _)
   | (with_reducible exact withyref04_Same.mono _ _ _)
   | (with_reducible exact LeO.refl _)
   | (with_reducible exact LeO.none _)
   | (with_reducible refine LeO.ite ?_ ?_)
   | (with_reducible refine LeO.bind ?_ (fun _ => ?_))
   | exact ih0 _ _ _ _ _ _ _
   | exact key_Compare.mono _ _ _
   | exact key_Put.mono _ _
   | exact withylaw04_Cut.mono _ _
   | exact withylaw04_Ref.mono _ _
   | exact withylaw04_fixed.mono _
   | exact withylaw04_right.mono _ _
   | exact withyref04_Same.mono _ _ _
   | exact LeO.none _
   | refine LeO.ite ?_ ?_
   | refine LeO.bind ?_ (fun _ => ?_)
theorem withylaw04_KeyMore.mono : ∀ a0 a1 a2 a3 a4 a5 k, LeO (withylaw04_KeyMore.f k a0 a1 a2 a3 a4 a5) (withylaw04_KeyMore.f (k + 1) a0 a1 a2 a3 a4 a5) := by
 intro a0 a1 a2 a3 a4 a5 k
 have ih0 := withylaw04_KeyMore.mono_l k
 unfold withylaw04_KeyMore.f
 repeat' first
   | (with_reducible exact ih0 _ _ _ _ _ _ _)
   | (with_reducible exact key_Compare.mono _ _ _)
   | (with_reducible exact key_Put.mono _ _)
   | (with_reducible exact withylaw04_Cut.mono _ _)
   | (with_reducible exact withylaw04_Ref.mono _ _)
   | (with_reducible exact withylaw04_fixed.mono _)
   | (with_reducible exact withylaw04_right.mono _ _)
   | (with_reducible exact withyref04_Same.mono _ _ _)
   | (with_reducible exact LeO.refl _)
   | (with_reducible exact LeO.none _)
   | (with_reducible refine LeO.ite ?_ ?_)
   | (with_reducible refine LeO.bind ?_ (fun _ => ?_))
   | exact ih0 _ _ _ _ _ _ _
   | exact key_Compare.mono _ _ _
   | exact key_Put.mono _ _
   | exact withylaw04_Cut.mono _ _
   | exact withylaw04_Ref.mono _ _
   | exact withylaw04_fixed.mono _
   | exact withylaw04_right.mono _ _
   | exact withyref04_Same.mono _ _ _
   | exact LeO.none _
   | refine LeO.ite ?_ ?_
   | refine LeO.bind ?_ (fun _ => ?_)
set_option maxHeartbeats 8000000 in
set_option maxRecDepth 100000 in
theorem withylaw04_KeyMore.calls (k : Nat) (A0 : Option Addr) (c0 : Nat) (l0 : List (S51)) (A1 : Option Addr) (c1 : Nat) (l1 : List (S51)) (a2_0 : Int) (a2_1 : Int) (a2_2 : Int) (a2_3 : ByteArray) (r : Bool) (w : World) (hr0 : Kd.C k51 w A0 l0.length l0) (hc0 : l0.length ≤ c0) (hr1 : Kd.C k51 w A1 l1.length l1) (hc1 : l1.length ≤ c1) (h : withylaw04_KeyMore.f k l0 l1 a2_0 a2_1 a2_2 a2_3 = some r) :
  Calls Tryd.prog 8 #[.slice A0 l0.length c0, .slice A1 l1.length c1, .agg #[.int .i64 a2_0, .int .i64 a2_1, .int .u64 a2_2, .string a2_3]] w fun e w' => e = .returned (.bool r) ∧ Below w.heap.size w w' := by
 have hu51 := Tryd.underlying51
 have HR0 := Aside0.mk hr0
 have HC0 := Aside0.mk hc0
 clear hr0 hc0
 have HR1 := Aside0.mk hr1
 have HC1 := Aside0.mk hc1
 clear hr1 hc1
 have HB := as_ (Below.refl w.heap.size w)
 have H : ((withylaw04_Cut.f k l0).bind fun t414 => ((withylaw04_Cut.f k l1).bind fun t417 => ((some (([] : List (S51)) : List (S51))).bind fun y420 => (if y420.length + t414.length < 3518437208883 then ((some (y420 ++ t414 : List (S51))).bind fun y423 => ((withylaw04_Cut.f k (([(⟨a2_0, a2_1, a2_2, a2_3⟩ : S51)] : List (S51)))).bind fun t429 => (if y423.length + t429.length < 3518437208883 then ((some (y423 ++ t429 : List (S51))).bind fun y432 => ((key_Put.f k t414).bind fun bt435 => ((key_Put.f k y432).bind fun bt437 => ((key_Put.f k t417).bind fun bt439 => (if bt435.2 = 0 then (if bt437.2 = 0 then (withylaw04_KeyMore.j0 k t414 t417 y432 bt435.1 bt437.1 bt439.1 (bt439.2 != 0)) else (withylaw04_KeyMore.j0 k t414 t417 y432 bt435.1 bt437.1 bt439.1 true)) else (withylaw04_KeyMore.j0 k t414 t417 y432 bt435.1 bt437.1 bt439.1 true)))))) else (none)))) else (none))))) = some r := h
 clear h
 replace H := bM H
 obtain ⟨t414, A40, H⟩ := H
 replace H : ((withylaw04_Cut.f k l1).bind fun t417 => ((some (([] : List (S51)) : List (S51))).bind fun y420 => (if y420.length + t414.length < 3518437208883 then ((some (y420 ++ t414 : List (S51))).bind fun y423 => ((withylaw04_Cut.f k (([(⟨a2_0, a2_1, a2_2, a2_3⟩ : S51)] : List (S51)))).bind fun t429 => (if y423.length + t429.length < 3518437208883 then ((some (y423 ++ t429 : List (S51))).bind fun y432 => ((key_Put.f k t414).bind fun bt435 => ((key_Put.f k y432).bind fun bt437 => ((key_Put.f k t417).bind fun bt439 => (if bt435.2 = 0 then (if bt437.2 = 0 then (withylaw04_KeyMore.j0 k t414 t417 y432 bt435.1 bt437.1 bt439.1 (bt439.2 != 0)) else (withylaw04_KeyMore.j0 k t414 t417 y432 bt435.1 bt437.1 bt439.1 true)) else (withylaw04_KeyMore.j0 k t414 t417 y432 bt435.1 bt437.1 bt439.1 true)))))) else (none)))) else (none)))) = some r := H
 have A4 := Aside0.mk A40
 clear A40
 replace H := bM H
 obtain ⟨t417, A50, H⟩ := H
 replace H : ((some (([] : List (S51)) : List (S51))).bind fun y420 => (if y420.length + t414.length < 3518437208883 then ((some (y420 ++ t414 : List (S51))).bind fun y423 => ((withylaw04_Cut.f k (([(⟨a2_0, a2_1, a2_2, a2_3⟩ : S51)] : List (S51)))).bind fun t429 => (if y423.length + t429.length < 3518437208883 then ((some (y423 ++ t429 : List (S51))).bind fun y432 => ((key_Put.f k t414).bind fun bt435 => ((key_Put.f k y432).bind fun bt437 => ((key_Put.f k t417).bind fun bt439 => (if bt435.2 = 0 then (if bt437.2 = 0 then (withylaw04_KeyMore.j0 k t414 t417 y432 bt435.1 bt437.1 bt439.1 (bt439.2 != 0)) else (withylaw04_KeyMore.j0 k t414 t417 y432 bt435.1 bt437.1 bt439.1 true)) else (withylaw04_KeyMore.j0 k t414 t417 y432 bt435.1 bt437.1 bt439.1 true)))))) else (none)))) else (none))) = some r := H
 have A5 := Aside0.mk A50
 clear A50
 obtain ⟨y420, hy420⟩ : ∃ y_ : List (S51), y_ = (([] : List (S51))) := ⟨_, rfl⟩
 replace H : (if y420.length + t414.length < 3518437208883 then ((some (y420 ++ t414 : List (S51))).bind fun y423 => ((withylaw04_Cut.f k (([(⟨a2_0, a2_1, a2_2, a2_3⟩ : S51)] : List (S51)))).bind fun t429 => (if y423.length + t429.length < 3518437208883 then ((some (y423 ++ t429 : List (S51))).bind fun y432 => ((key_Put.f k t414).bind fun bt435 => ((key_Put.f k y432).bind fun bt437 => ((key_Put.f k t417).bind fun bt439 => (if bt435.2 = 0 then (if bt437.2 = 0 then (withylaw04_KeyMore.j0 k t414 t417 y432 bt435.1 bt437.1 bt439.1 (bt439.2 != 0)) else (withylaw04_KeyMore.j0 k t414 t417 y432 bt435.1 bt437.1 bt439.1 true)) else (withylaw04_KeyMore.j0 k t414 t417 y432 bt435.1 bt437.1 bt439.1 true)))))) else (none)))) else (none)) = some r := by first | (rw [hy420]; with_reducible exact H) | (have H2_ := (Option.bind_some _ _).symm.trans H; rw [hy420]; with_reducible exact H2_) | (have H2_ := (Option.bind_some _ _).symm.trans H; with_reducible exact H2_) | with_reducible exact H | (rw [hy420]; exact H) | exact H
 have Ny420 := Aside0.mk hy420
 clear hy420
 by_cases c6 : y420.length + t414.length < 3518437208883
 rotate_left
 ·rw [if_neg c6] at H
  exact absurd H (by simp)
 
 rw [if_pos c6] at H
 have LMc6 := Aside0.mk c6
 clear c6
 obtain ⟨y423, hy423⟩ : ∃ y_ : List (S51), y_ = (y420 ++ t414) := ⟨_, rfl⟩
 replace H : ((withylaw04_Cut.f k (([(⟨a2_0, a2_1, a2_2, a2_3⟩ : S51)] : List (S51)))).bind fun t429 => (if y423.length + t429.length < 3518437208883 then ((some (y423 ++ t429 : List (S51))).bind fun y432 => ((key_Put.f k t414).bind fun bt435 => ((key_Put.f k y432).bind fun bt437 => ((key_Put.f k t417).bind fun bt439 => (if bt435.2 = 0 then (if bt437.2 = 0 then (withylaw04_KeyMore.j0 k t414 t417 y432 bt435.1 bt437.1 bt439.1 (bt439.2 != 0)) else (withylaw04_KeyMore.j0 k t414 t417 y432 bt435.1 bt437.1 bt439.1 true)) else (withylaw04_KeyMore.j0 k t414 t417 y432 bt435.1 bt437.1 bt439.1 true)))))) else (none))) = some r := by first | (rw [hy423]; with_reducible exact H) | (have H2_ := (Option.bind_some _ _).symm.trans H; rw [hy423]; with_reducible exact H2_) | (have H2_ := (Option.bind_some _ _).symm.trans H; with_reducible exact H2_) | with_reducible exact H | (rw [hy423]; exact H) | exact H
 have Ny423 := Aside0.mk hy423
 clear hy423
 obtain ⟨y426, hy426⟩ : ∃ y_ : List (S51), y_ = (([(⟨a2_0, a2_1, a2_2, a2_3⟩ : S51)] : List (S51))) := ⟨_, rfl⟩
 replace H : ((withylaw04_Cut.f k y426).bind fun t429 => (if y423.length + t429.length < 3518437208883 then ((some (y423 ++ t429 : List (S51))).bind fun y432 => ((key_Put.f k t414).bind fun bt435 => ((key_Put.f k y432).bind fun bt437 => ((key_Put.f k t417).bind fun bt439 => (if bt435.2 = 0 then (if bt437.2 = 0 then (withylaw04_KeyMore.j0 k t414 t417 y432 bt435.1 bt437.1 bt439.1 (bt439.2 != 0)) else (withylaw04_KeyMore.j0 k t414 t417 y432 bt435.1 bt437.1 bt439.1 true)) else (withylaw04_KeyMore.j0 k t414 t417 y432 bt435.1 bt437.1 bt439.1 true)))))) else (none))) = some r := by first | (rw [hy426]; with_reducible exact H) | (have H2_ := (Option.bind_some _ _).symm.trans H; rw [hy426]; with_reducible exact H2_) | (have H2_ := (Option.bind_some _ _).symm.trans H; with_reducible exact H2_) | with_reducible exact H | (rw [hy426]; exact H) | exact H
 have Ny426 := Aside0.mk hy426
 clear hy426
 replace H := bM H
 obtain ⟨t429, A70, H⟩ := H
 replace H : (if y423.length + t429.length < 3518437208883 then ((some (y423 ++ t429 : List (S51))).bind fun y432 => ((key_Put.f k t414).bind fun bt435 => ((key_Put.f k y432).bind fun bt437 => ((key_Put.f k t417).bind fun bt439 => (if bt435.2 = 0 then (if bt437.2 = 0 then (withylaw04_KeyMore.j0 k t414 t417 y432 bt435.1 bt437.1 bt439.1 (bt439.2 != 0)) else (withylaw04_KeyMore.j0 k t414 t417 y432 bt435.1 bt437.1 bt439.1 true)) else (withylaw04_KeyMore.j0 k t414 t417 y432 bt435.1 bt437.1 bt439.1 true)))))) else (none)) = some r := H
 have A7 := Aside0.mk A70
 clear A70
 by_cases c8 : y423.length + t429.length < 3518437208883
 rotate_left
 ·rw [if_neg c8] at H
  exact absurd H (by simp)
 rw [if_pos c8] at H
 have LMc8 := Aside0.mk c8
 clear c8
 obtain ⟨y432, hy432⟩ : ∃ y_ : List (S51), y_ = (y423 ++ t429) := ⟨_, rfl⟩
 replace H : ((key_Put.f k t414).bind fun bt435 => ((key_Put.f k y432).bind fun bt437 => ((key_Put.f k t417).bind fun bt439 => (if bt435.2 = 0 then (if bt437.2 = 0 then (withylaw04_KeyMore.j0 k t414 t417 y432 bt435.1 bt437.1 bt439.1 (bt439.2 != 0)) else (withylaw04_KeyMore.j0 k t414 t417 y432 bt435.1 bt437.1 bt439.1 true)) else (withylaw04_KeyMore.j0 k t414 t417 y432 bt435.1 bt437.1 bt439.1 true))))) = some r := by first | (rw [hy432]; with_reducible exact H) | (have H2_ := (Option.bind_some _ _).symm.trans H; rw [hy432]; with_reducible exact H2_) | (have H2_ := (Option.bind_some _ _).symm.trans H; with_reducible exact H2_) | with_reducible exact H | (rw [hy432]; exact H) | exact H
 have Ny432 := Aside0.mk hy432
 clear hy432
 replace H := bM H
 obtain ⟨⟨t435, t436⟩, A90, H⟩ := H
 replace H : ((key_Put.f k y432).bind fun bt437 => ((key_Put.f k t417).bind fun bt439 => (if t436 = 0 then (if bt437.2 = 0 then (withylaw04_KeyMore.j0 k t414 t417 y432 t435 bt437.1 bt439.1 (bt439.2 != 0)) else (withylaw04_KeyMore.j0 k t414 t417 y432 t435 bt437.1 bt439.1 true)) else (withylaw04_KeyMore.j0 k t414 t417 y432 t435 bt437.1 bt439.1 true)))) = some r := H
 have A9 := Aside0.mk A90
 clear A90
 replace H := bM H
 obtain ⟨⟨t437, t438⟩, A100, H⟩ := H
 replace H : ((key_Put.f k t417).bind fun bt439 => (if t436 = 0 then (if t438 = 0 then (withylaw04_KeyMore.j0 k t414 t417 y432 t435 t437 bt439.1 (bt439.2 != 0)) else (withylaw04_KeyMore.j0 k t414 t417 y432 t435 t437 bt439.1 true)) else (withylaw04_KeyMore.j0 k t414 t417 y432 t435 t437 bt439.1 true))) = some r := H
 have A10 := Aside0.mk A100
 clear A100
 replace H := bM H
 obtain ⟨⟨t439, t440⟩, A110, H⟩ := H
 replace H : (if t436 = 0 then (if t438 = 0 then (withylaw04_KeyMore.j0 k t414 t417 y432 t435 t437 t439 (t440 != 0)) else (withylaw04_KeyMore.j0 k t414 t417 y432 t435 t437 t439 true)) else (withylaw04_KeyMore.j0 k t414 t417 y432 t435 t437 t439 true)) = some r := H
 have A11 := Aside0.mk A110
 clear A110
 have HC12 := Aside0.mk H
 clear H
 go_enter Tryd.func8, Tryd.ntmps8
 go_upto_region 8 with (first | ((with_reducible refine gate_dst (N := 5) rfl ?_); (try (refine gate_guard (by rfl) ?_; dsimp only)); refine box_event (by rfl) (N := 5) (by rfl) (cs := #[.int .i64 a2_0, .int .i64 a2_1, .int .u64 a2_2, .string a2_3]) (t := 51) gS ?_; intro gb413 hg w13 hbox hb; have BK413 := as_ (hbox); have GW413 := gw hg bA; have GE413 := gw hg bA; replace HB := as_ (below_step bA hb); clear hb hbox hg) | ((with_reducible refine gate_callee (f := 9) rfl ?_); refine goesL_ (some 16) rfl rfl Tryd.func9 (by kernel_rfl) rfl #[.slice A0 l0.length c0] rfl aO ?_; (with_reducible refine (withylaw04_Cut.calls k _ _ l0 t414 _ ?side1 ?side2 A4.out).mono ?_); (case side1 => repeat (first | exact (Kd.C_below HR0.out HB.out) | (with_reducible refine Kd.C_alloc ?_ _) | (with_reducible refine Kd.C_drewN ?_ _) | (with_reducible refine Kd.C_drew ?_))); (case side2 => exact HC0.out); rintro e w14 ⟨v415, rfl, ho0, hb⟩; refine ⟨_, rfl, ?_⟩; have HO416 := as_ (Kd.R_lower (Kd.R_newB ho0 (g := gb413) (o := .cells #[.int .i64 a2_0, .int .i64 a2_1, .int .u64 a2_2, .string a2_3] 51 (0, 0)) (bk BK413)) (below_size bA)); replace BK413 := bb BK413 hb; replace HB := as_ (below_step bA hb); (try clear hb); (try clear hb2); (try clear hk); (try clear hi); (try clear ho0)) | ((with_reducible refine gate_callee (f := 9) rfl ?_); refine goesL_ (some 18) rfl rfl Tryd.func9 (by kernel_rfl) rfl #[.slice A1 l1.length c1] rfl aO ?_; (with_reducible refine (withylaw04_Cut.calls k _ _ l1 t417 _ ?side1 ?side2 A5.out).mono ?_); (case side1 => repeat (first | exact (Kd.C_below HR1.out HB.out) | (with_reducible refine Kd.C_alloc ?_ _) | (with_reducible refine Kd.C_drewN ?_ _) | (with_reducible refine Kd.C_drew ?_))); (case side2 => exact HC1.out); rintro e w15 ⟨v418, rfl, ho0, hb⟩; refine ⟨_, rfl, ?_⟩; have HO419 := as_ (Kd.R_lower (Kd.R_newB (Kd.R_new' ho0 (Kd.R_lt (by (with_reducible repeat (first | apply Kd.R_alloc | apply Kd.R_drewN | apply Kd.R_drew)); exact HO416.out))) (g := gb413) (o := .cells #[.int .i64 a2_0, .int .i64 a2_1, .int .u64 a2_2, .string a2_3] 51 (0, 0)) (bk BK413)) (below_size bA)); replace HO416 := as_ (Kd.R_elder' (by (with_reducible repeat (first | apply Kd.R_alloc | apply Kd.R_drewN | apply Kd.R_drew)); exact HO416.out) (Kd.R_base ho0) hb); replace BK413 := bb BK413 hb; replace HB := as_ (below_step bA hb); (try clear hb); (try clear hb2); (try clear hk); (try clear hi); (try clear ho0)) | ((with_reducible refine gate_dst (N := 19) rfl ?_); (try (refine gate_guard (by rfl) ?_; dsimp only)); refine Kd.R_lit k51 _ 51 ?hg (N := 19) ?hd (xs := ([] : List (S51))) (inner := []) (ok := fun _ => True) (okp := fun _ => True) ?hr ?hp (fun _ hk => hk) trivial (Below.refl _ _) (Nat.le_refl _) (by simp) ?_; (case hd => rfl); (case hg => rfl); (case hr => first | (go_simp; done) | (go_simp; rfl)); (case hp => exact (Reps.none _ _)); intro v421 w16 ho17 hb hg_ hnew_; clear hg_ hnew_; (first | rw [← Ny420.out] at ho17 | (simp only [Int.reduceToNat] at ho17; rw [← Ny420.out] at ho17)); have HO422 := as_ (Kd.R_lower (Kd.R_newB (Kd.R_new' (Kd.R_new' ho17 (Kd.R_lt (by (with_reducible repeat (first | apply Kd.R_alloc | apply Kd.R_drewN | apply Kd.R_drew)); exact HO416.out))) (Kd.R_lt (by (with_reducible repeat (first | apply Kd.R_alloc | apply Kd.R_drewN | apply Kd.R_drew)); exact HO419.out))) (g := gb413) (o := .cells #[.int .i64 a2_0, .int .i64 a2_1, .int .u64 a2_2, .string a2_3] 51 (0, 0)) (bk BK413)) (below_size bA)); replace HO416 := as_ (Kd.R_elder' (by (with_reducible repeat (first | apply Kd.R_alloc | apply Kd.R_drewN | apply Kd.R_drew)); exact HO416.out) (Kd.R_base ho17) hb); replace HO419 := as_ (Kd.R_elder' (by (with_reducible repeat (first | apply Kd.R_alloc | apply Kd.R_drewN | apply Kd.R_drew)); exact HO419.out) (Kd.R_base ho17) hb); replace BK413 := bb BK413 hb; replace HB := as_ (below_step bA hb); clear hb ho17; obtain ⟨Ao19, co19, eo19⟩ := Kd.R_slice HO416.out; subst eo19) | ((with_reducible refine gate_builtin (b := .append) (xs := #[.tmp 19, .tmp 20]) rfl ?_); (try (refine gate_guard (by rfl) ?_; dsimp only)); at_builtin; refine Kd.R_append_rows k51 (w0 := w) w.heap.size rfl (.tmp 19) (.tmp 20) 22 51 (.agg #[(.int .i64 0), (.int .i64 0), (.int .u64 0), (.string ⟨#[]⟩)]) 40 rfl Tryd.underlying22 info51 rfl (by decide) (by omega) v421 y420 t414 _ _ _ (fun k_ => some k_ ≠ (.slice Ao19 t414.length co19 : Value).ownBlock ∧ some k_ ≠ (v418 : Value).ownBlock ∧ k_ ≠ gb413) (fun _ => False) rfl rfl ?aO ?aR (fun _ _ h => h) (fun _ h => h.elim) ?aF ?aB ?aS ?aL ?_; (case aR => repeat (first | exact (Kd.R_reads' HO416.out).2.2 | (with_reducible refine Kd.C_alloc ?_ _) | (with_reducible refine Kd.C_drewN ?_ _) | (with_reducible refine Kd.C_drew ?_))); (case aB => exact bA); (case aF => exact (fun k_ hk => ⟨Kd.fresh' (Kd.R_lt (by (with_reducible repeat (first | apply Kd.R_alloc | apply Kd.R_drewN | apply Kd.R_drew)); exact HO416.out)) k_ hk, Kd.fresh' (Kd.R_lt (by (with_reducible repeat (first | apply Kd.R_alloc | apply Kd.R_drewN | apply Kd.R_drew)); exact HO419.out)) k_ hk, Kd.freshB (g := gb413) (o := .cells #[.int .i64 a2_0, .int .i64 a2_1, .int .u64 a2_2, .string a2_3] 51 (0, 0)) (bk BK413) k_ hk⟩)); (case aO => exact (by (with_reducible repeat (first | apply Kd.R_alloc | apply Kd.R_drewN | apply Kd.R_drew)); exact Kd.R_mono HO422.out (fun _ hk => ⟨hk.1.1.2, ⟨hk.1.2, hk.2⟩⟩))); (case aS => exact (below_size bA)); (case aL => have := LMc6.out; omega); intro v424 w18 ho hb hg hat; rw [← Ny423.out] at ho; have HO425 := as_ (ho); replace BK413 := as_ (blk_grown (g := gb413) (o := .cells #[.int .i64 a2_0, .int .i64 a2_1, .int .u64 a2_2, .string a2_3] 51 (0, 0)) (bk BK413) hg (Kd.R_away HO422.out (fun _ hk => hk.2))); replace HO416 := as_ (Kd.R_after (ok := (fun k_ => some k_ ≠ (v418 : Value).ownBlock ∧ k_ ≠ gb413)) (by (with_reducible repeat (first | apply Kd.R_alloc | apply Kd.R_drewN | apply Kd.R_drew)); exact Kd.R_mono HO416.out (fun _ hk => ⟨⟨hk.1.2, hk.1.1.2⟩, hk.2⟩)) hg hat); replace HO419 := as_ (Kd.R_after (ok := (fun k_ => some k_ ≠ (.slice Ao19 t414.length co19 : Value).ownBlock ∧ k_ ≠ gb413)) (by (with_reducible repeat (first | apply Kd.R_alloc | apply Kd.R_drewN | apply Kd.R_drew)); exact Kd.R_mono HO419.out (fun _ hk => ⟨⟨hk.1.1.2, hk.1.2⟩, hk.2⟩)) hg hat); replace HB := as_ (hb); clear HO422; clear ho hb hg hat; obtain ⟨hcz20_0, hcz20_1, hcz20_2, hcz20_3⟩ := zc4 BK413; obtain ⟨hfz20_0, hfz20_1, hfz20_2, hfz20_3⟩ := zf4 BK413) | ((with_reducible refine gate_dst (N := 24) rfl ?_); (try (refine gate_guard (by rfl) ?_; dsimp only)); refine Kd.R_lit k51 _ 51 ?hg (N := 24) ?hd (xs := ([(⟨a2_0, a2_1, a2_2, a2_3⟩ : S51)] : List (S51))) (inner := [.int .i64 a2_0, .int .i64 a2_1, .int .u64 a2_2, .string a2_3]) (ok := fun _ => True) (okp := fun _ => True) ?hr ?hp (fun _ hk => hk) trivial (Below.refl _ _) (Nat.le_refl _) (by simp) ?_; (case hd => rfl); (case hg => rfl); (case hr => first | (go_simp; done) | (go_simp; rfl)); (case hp => exact (Reps.c4 (show Kd.M k51 _ _ _ (⟨a2_0, a2_1, a2_2, a2_3⟩ : S51) [.int .i64 a2_0, .int .i64 a2_1, .int .u64 a2_2, .string a2_3] from (k51_mkM _ _ _ (⟨a2_0, a2_1, a2_2, a2_3⟩ : S51) )) (Reps.none _ _))); intro v427 w21 ho22 hb hg_ hnew_; clear hg_ hnew_; (first | rw [← Ny426.out] at ho22 | (simp only [Int.reduceToNat] at ho22; rw [← Ny426.out] at ho22)); have HO428 := as_ (Kd.R_lower (Kd.R_newB (Kd.R_new' (Kd.R_new' (Kd.R_new' ho22 (Kd.R_lt (by (with_reducible repeat (first | apply Kd.R_alloc | apply Kd.R_drewN | apply Kd.R_drew)); exact HO416.out))) (Kd.R_lt (by (with_reducible repeat (first | apply Kd.R_alloc | apply Kd.R_drewN | apply Kd.R_drew)); exact HO419.out))) (Kd.R_lt (by (with_reducible repeat (first | apply Kd.R_alloc | apply Kd.R_drewN | apply Kd.R_drew)); exact HO425.out))) (g := gb413) (o := .cells #[.int .i64 a2_0, .int .i64 a2_1, .int .u64 a2_2, .string a2_3] 51 (0, 0)) (bk BK413)) (below_size bA)); replace HO416 := as_ (Kd.R_elder' (by (with_reducible repeat (first | apply Kd.R_alloc | apply Kd.R_drewN | apply Kd.R_drew)); exact HO416.out) (Kd.R_base ho22) hb); replace HO419 := as_ (Kd.R_elder' (by (with_reducible repeat (first | apply Kd.R_alloc | apply Kd.R_drewN | apply Kd.R_drew)); exact HO419.out) (Kd.R_base ho22) hb); replace HO425 := as_ (Kd.R_elder' (by (with_reducible repeat (first | apply Kd.R_alloc | apply Kd.R_drewN | apply Kd.R_drew)); exact HO425.out) (Kd.R_base ho22) hb); replace BK413 := bb BK413 hb; replace HB := as_ (below_step bA hb); clear hb ho22; obtain ⟨Ao23, co23, eo23⟩ := Kd.R_slice HO428.out; subst eo23) | ((with_reducible refine gate_callee (f := 9) rfl ?_); refine goesL_ (some 25) rfl rfl Tryd.func9 (by kernel_rfl) rfl #[.slice Ao23 y426.length co23] rfl aO ?_; (with_reducible refine (withylaw04_Cut.calls k _ _ y426 t429 _ ?side1 ?side2 A7.out).mono ?_); (case side1 => repeat (first | exact (Kd.R_reads' HO428.out).2.2 | (with_reducible refine Kd.C_alloc ?_ _) | (with_reducible refine Kd.C_drewN ?_ _) | (with_reducible refine Kd.C_drew ?_))); (case side2 => exact (Kd.R_reads' HO428.out).2.1); rintro e w24 ⟨v430, rfl, ho0, hb⟩; refine ⟨_, rfl, ?_⟩; have HO431 := as_ (Kd.R_lower (Kd.R_newB (Kd.R_new' (Kd.R_new' (Kd.R_new' (Kd.R_new' ho0 (Kd.R_lt (by (with_reducible repeat (first | apply Kd.R_alloc | apply Kd.R_drewN | apply Kd.R_drew)); exact HO416.out))) (Kd.R_lt (by (with_reducible repeat (first | apply Kd.R_alloc | apply Kd.R_drewN | apply Kd.R_drew)); exact HO419.out))) (Kd.R_lt (by (with_reducible repeat (first | apply Kd.R_alloc | apply Kd.R_drewN | apply Kd.R_drew)); exact HO425.out))) (Kd.R_lt (by (with_reducible repeat (first | apply Kd.R_alloc | apply Kd.R_drewN | apply Kd.R_drew)); exact HO428.out))) (g := gb413) (o := .cells #[.int .i64 a2_0, .int .i64 a2_1, .int .u64 a2_2, .string a2_3] 51 (0, 0)) (bk BK413)) (below_size bA)); replace HO416 := as_ (Kd.R_elder' (by (with_reducible repeat (first | apply Kd.R_alloc | apply Kd.R_drewN | apply Kd.R_drew)); exact HO416.out) (Kd.R_base ho0) hb); replace HO419 := as_ (Kd.R_elder' (by (with_reducible repeat (first | apply Kd.R_alloc | apply Kd.R_drewN | apply Kd.R_drew)); exact HO419.out) (Kd.R_base ho0) hb); replace HO425 := as_ (Kd.R_elder' (by (with_reducible repeat (first | apply Kd.R_alloc | apply Kd.R_drewN | apply Kd.R_drew)); exact HO425.out) (Kd.R_base ho0) hb); replace HO428 := as_ (Kd.R_elder' (by (with_reducible repeat (first | apply Kd.R_alloc | apply Kd.R_drewN | apply Kd.R_drew)); exact HO428.out) (Kd.R_base ho0) hb); replace BK413 := bb BK413 hb; replace HB := as_ (below_step bA hb); (try clear hb); (try clear hb2); (try clear hk); (try clear hi); (try clear ho0); obtain ⟨Ao26, co26, eo26⟩ := Kd.R_slice HO431.out; subst eo26) | ((with_reducible refine gate_builtin (b := .append) (xs := #[.tmp 22, .tmp 25]) rfl ?_); (try (refine gate_guard (by rfl) ?_; dsimp only)); at_builtin; refine Kd.R_append_rows k51 (w0 := w) w.heap.size rfl (.tmp 22) (.tmp 25) 22 51 (.agg #[(.int .i64 0), (.int .i64 0), (.int .u64 0), (.string ⟨#[]⟩)]) 40 rfl Tryd.underlying22 info51 rfl (by decide) (by omega) v424 y423 t429 _ _ _ (fun k_ => some k_ ≠ (.slice Ao19 t414.length co19 : Value).ownBlock ∧ some k_ ≠ (v418 : Value).ownBlock ∧ some k_ ≠ (.slice Ao23 y426.length co23 : Value).ownBlock ∧ some k_ ≠ (.slice Ao26 t429.length co26 : Value).ownBlock ∧ k_ ≠ gb413) (fun _ => False) rfl rfl ?aO ?aR (fun _ _ h => h) (fun _ h => h.elim) ?aF ?aB ?aS ?aL ?_; (case aR => repeat (first | exact (Kd.R_reads' HO431.out).2.2 | (with_reducible refine Kd.C_alloc ?_ _) | (with_reducible refine Kd.C_drewN ?_ _) | (with_reducible refine Kd.C_drew ?_))); (case aB => exact bA); (case aF => exact (fun k_ hk => ⟨Kd.fresh' (Kd.R_lt (by (with_reducible repeat (first | apply Kd.R_alloc | apply Kd.R_drewN | apply Kd.R_drew)); exact HO416.out)) k_ hk, Kd.fresh' (Kd.R_lt (by (with_reducible repeat (first | apply Kd.R_alloc | apply Kd.R_drewN | apply Kd.R_drew)); exact HO419.out)) k_ hk, Kd.fresh' (Kd.R_lt (by (with_reducible repeat (first | apply Kd.R_alloc | apply Kd.R_drewN | apply Kd.R_drew)); exact HO428.out)) k_ hk, Kd.fresh' (Kd.R_lt (by (with_reducible repeat (first | apply Kd.R_alloc | apply Kd.R_drewN | apply Kd.R_drew)); exact HO431.out)) k_ hk, Kd.freshB (g := gb413) (o := .cells #[.int .i64 a2_0, .int .i64 a2_1, .int .u64 a2_2, .string a2_3] 51 (0, 0)) (bk BK413) k_ hk⟩)); (case aO => exact (by (with_reducible repeat (first | apply Kd.R_alloc | apply Kd.R_drewN | apply Kd.R_drew)); exact Kd.R_mono HO425.out (fun _ hk => ⟨hk.1.1.1, ⟨hk.1.1.2.1, ⟨hk.1.2, ⟨hk.2, hk.1.1.2.2⟩⟩⟩⟩))); (case aS => exact (below_size bA)); (case aL => have := LMc8.out; omega); intro v433 w25 ho hb hg hat; rw [← Ny432.out] at ho; have HO434 := as_ (ho); replace BK413 := as_ (blk_grown (g := gb413) (o := .cells #[.int .i64 a2_0, .int .i64 a2_1, .int .u64 a2_2, .string a2_3] 51 (0, 0)) (bk BK413) hg (Kd.R_away HO425.out (fun _ hk => hk.1.1.2.2))); replace HO416 := as_ (Kd.R_after (ok := (fun k_ => some k_ ≠ (v418 : Value).ownBlock ∧ some k_ ≠ (.slice Ao23 y426.length co23 : Value).ownBlock ∧ some k_ ≠ (.slice Ao26 t429.length co26 : Value).ownBlock ∧ k_ ≠ gb413)) (by (with_reducible repeat (first | apply Kd.R_alloc | apply Kd.R_drewN | apply Kd.R_drew)); exact Kd.R_mono HO416.out (fun _ hk => ⟨⟨hk.1.1.1.1, ⟨hk.1.2, ⟨hk.2, hk.1.1.1.2⟩⟩⟩, hk.1.1.2⟩)) hg hat); replace HO419 := as_ (Kd.R_after (ok := (fun k_ => some k_ ≠ (.slice Ao19 t414.length co19 : Value).ownBlock ∧ some k_ ≠ (.slice Ao23 y426.length co23 : Value).ownBlock ∧ some k_ ≠ (.slice Ao26 t429.length co26 : Value).ownBlock ∧ k_ ≠ gb413)) (by (with_reducible repeat (first | apply Kd.R_alloc | apply Kd.R_drewN | apply Kd.R_drew)); exact Kd.R_mono HO419.out (fun _ hk => ⟨⟨hk.1.1.1.1, ⟨hk.1.2, ⟨hk.2, hk.1.1.1.2⟩⟩⟩, hk.1.1.2⟩)) hg hat); replace HO428 := as_ (Kd.R_after (ok := (fun k_ => some k_ ≠ (.slice Ao19 t414.length co19 : Value).ownBlock ∧ some k_ ≠ (v418 : Value).ownBlock ∧ some k_ ≠ (.slice Ao26 t429.length co26 : Value).ownBlock ∧ k_ ≠ gb413)) (by (with_reducible repeat (first | apply Kd.R_alloc | apply Kd.R_drewN | apply Kd.R_drew)); exact Kd.R_mono HO428.out (fun _ hk => ⟨⟨hk.1.1.1.1.2, ⟨hk.1.1.1.2, ⟨hk.2, hk.1.2⟩⟩⟩, hk.1.1.2⟩)) hg hat); replace HO431 := as_ (Kd.R_after (ok := (fun k_ => some k_ ≠ (.slice Ao19 t414.length co19 : Value).ownBlock ∧ some k_ ≠ (v418 : Value).ownBlock ∧ some k_ ≠ (.slice Ao23 y426.length co23 : Value).ownBlock ∧ k_ ≠ gb413)) (by (with_reducible repeat (first | apply Kd.R_alloc | apply Kd.R_drewN | apply Kd.R_drew)); exact Kd.R_mono HO431.out (fun _ hk => ⟨⟨hk.1.1.1.1.2, ⟨hk.1.1.1.2, ⟨hk.1.2, hk.2⟩⟩⟩, hk.1.1.2⟩)) hg hat); replace HB := as_ (hb); clear HO425; clear ho hb hg hat) | ((with_reducible refine gate_callee (f := 10) rfl ?_); refine goesL_ (some 29) rfl rfl Tryd.func10 (by kernel_rfl) rfl #[.slice Ao19 t414.length co19] rfl aO ?_; (with_reducible refine (key_Put.calls k _ _ t414 t435 t436 _ ?side1 ?side2 A9.out).mono ?_); (case side1 => repeat (first | exact (Kd.R_reads' HO416.out).2.2 | (with_reducible refine Kd.C_alloc ?_ _) | (with_reducible refine Kd.C_drewN ?_ _) | (with_reducible refine Kd.C_drew ?_))); (case side2 => exact (Kd.R_reads' HO416.out).2.1); rintro e w27 ⟨rfl, hb⟩; clear A9; refine ⟨_, rfl, ?_⟩; replace HO416 := as_ (Kd.R_below (by (with_reducible repeat (first | apply Kd.R_alloc | apply Kd.R_drewN | apply Kd.R_drew)); exact HO416.out) hb); replace HO419 := as_ (Kd.R_below (by (with_reducible repeat (first | apply Kd.R_alloc | apply Kd.R_drewN | apply Kd.R_drew)); exact HO419.out) hb); replace HO428 := as_ (Kd.R_below (by (with_reducible repeat (first | apply Kd.R_alloc | apply Kd.R_drewN | apply Kd.R_drew)); exact HO428.out) hb); replace HO431 := as_ (Kd.R_below (by (with_reducible repeat (first | apply Kd.R_alloc | apply Kd.R_drewN | apply Kd.R_drew)); exact HO431.out) hb); replace HO434 := as_ (Kd.R_below (by (with_reducible repeat (first | apply Kd.R_alloc | apply Kd.R_drewN | apply Kd.R_drew)); exact HO434.out) hb); replace BK413 := bb BK413 hb; replace HB := as_ (below_step bA hb); (try clear hb); (try clear hb2); (try clear hk); (try clear hi); obtain ⟨Ao28, co28, eo28⟩ := Kd.R_slice HO434.out; subst eo28) | ((with_reducible refine gate_callee (f := 10) rfl ?_); refine goesL_ (some 34) rfl rfl Tryd.func10 (by kernel_rfl) rfl #[.slice Ao28 y432.length co28] rfl aO ?_; (with_reducible refine (key_Put.calls k _ _ y432 t437 t438 _ ?side1 ?side2 A10.out).mono ?_); (case side1 => repeat (first | exact (Kd.R_reads' HO434.out).2.2 | (with_reducible refine Kd.C_alloc ?_ _) | (with_reducible refine Kd.C_drewN ?_ _) | (with_reducible refine Kd.C_drew ?_))); (case side2 => exact (Kd.R_reads' HO434.out).2.1); rintro e w29 ⟨rfl, hb⟩; refine ⟨_, rfl, ?_⟩; replace HO416 := as_ (Kd.R_below (by (with_reducible repeat (first | apply Kd.R_alloc | apply Kd.R_drewN | apply Kd.R_drew)); exact HO416.out) hb); replace HO419 := as_ (Kd.R_below (by (with_reducible repeat (first | apply Kd.R_alloc | apply Kd.R_drewN | apply Kd.R_drew)); exact HO419.out) hb); replace HO428 := as_ (Kd.R_below (by (with_reducible repeat (first | apply Kd.R_alloc | apply Kd.R_drewN | apply Kd.R_drew)); exact HO428.out) hb); replace HO431 := as_ (Kd.R_below (by (with_reducible repeat (first | apply Kd.R_alloc | apply Kd.R_drewN | apply Kd.R_drew)); exact HO431.out) hb); replace HO434 := as_ (Kd.R_below (by (with_reducible repeat (first | apply Kd.R_alloc | apply Kd.R_drewN | apply Kd.R_drew)); exact HO434.out) hb); replace BK413 := bb BK413 hb; replace HB := as_ (below_step bA hb); (try clear hb); (try clear hb2); (try clear hk); (try clear hi); obtain ⟨Ao30, co30, eo30⟩ := Kd.R_slice HO419.out; subst eo30) | ((with_reducible refine gate_callee (f := 10) rfl ?_); refine goesL_ (some 39) rfl rfl Tryd.func10 (by kernel_rfl) rfl #[.slice Ao30 t417.length co30] rfl aO ?_; (with_reducible refine (key_Put.calls k _ _ t417 t439 t440 _ ?side1 ?side2 A11.out).mono ?_); (case side1 => repeat (first | exact (Kd.R_reads' HO419.out).2.2 | (with_reducible refine Kd.C_alloc ?_ _) | (with_reducible refine Kd.C_drewN ?_ _) | (with_reducible refine Kd.C_drew ?_))); (case side2 => exact (Kd.R_reads' HO419.out).2.1); rintro e w31 ⟨rfl, hb⟩; clear A11; refine ⟨_, rfl, ?_⟩; replace HO416 := as_ (Kd.R_below (by (with_reducible repeat (first | apply Kd.R_alloc | apply Kd.R_drewN | apply Kd.R_drew)); exact HO416.out) hb); replace HO419 := as_ (Kd.R_below (by (with_reducible repeat (first | apply Kd.R_alloc | apply Kd.R_drewN | apply Kd.R_drew)); exact HO419.out) hb); replace HO428 := as_ (Kd.R_below (by (with_reducible repeat (first | apply Kd.R_alloc | apply Kd.R_drewN | apply Kd.R_drew)); exact HO428.out) hb); replace HO431 := as_ (Kd.R_below (by (with_reducible repeat (first | apply Kd.R_alloc | apply Kd.R_drewN | apply Kd.R_drew)); exact HO431.out) hb); replace HO434 := as_ (Kd.R_below (by (with_reducible repeat (first | apply Kd.R_alloc | apply Kd.R_drewN | apply Kd.R_drew)); exact HO434.out) hb); replace BK413 := bb BK413 hb; replace HB := as_ (below_step bA hb); (try clear hb); (try clear hb2); (try clear hk); (try clear hi)))
 (try simp only [Act.put, List.setIfInBounds_toArray, List.set_cons_zero, List.set_cons_succ])
 go_cut [51] (fun v51 wc => ∃ (kq : Nat) (x51_11 : Bool), v51 = .bool x51_11 ∧ Aside0 (withylaw04_KeyMore.j0 kq t414 t417 y432 t435 t437 t439 x51_11 = some r) ∧ Aside0 (kq ≤ k) ∧ Aside0 (Kd.R k51 51 wc w.heap.size (fun k_ => some k_ ≠ ((.slice Ao30 t417.length co30) : Value).ownBlock ∧ some k_ ≠ ((.slice Ao28 y432.length co28) : Value).ownBlock ∧ k_ ≠ gb413) (.slice Ao19 t414.length co19) t414) ∧ Aside0 (Kd.R k51 51 wc w.heap.size (fun k_ => some k_ ≠ ((.slice Ao19 t414.length co19) : Value).ownBlock ∧ some k_ ≠ ((.slice Ao28 y432.length co28) : Value).ownBlock ∧ k_ ≠ gb413) (.slice Ao30 t417.length co30) t417) ∧ Aside0 (Kd.R k51 51 wc w.heap.size (fun k_ => some k_ ≠ ((.slice Ao19 t414.length co19) : Value).ownBlock ∧ some k_ ≠ ((.slice Ao30 t417.length co30) : Value).ownBlock ∧ k_ ≠ gb413) (.slice Ao28 y432.length co28) y432) ∧ Aside0 (wc.heap[gb413]? = some (.cells #[.int .i64 a2_0, .int .i64 a2_1, .int .u64 a2_2, .string a2_3] 51 (0, 0))) ∧ Aside0 (Below w.heap.size w wc))
 case first =>
  have H := HC12.out
  clear HC12
  by_cases c32 : t436 = 0
  rotate_left
  ·rw [if_neg c32] at H
   have c32b0 : (t436 == 0) = false := beq_eq_false_iff_ne.mpr c32
   have c32b1 : (t436 != 0) = true := bne_iff_ne.mpr c32
   (first | rw [c32b0] | (simp only [i64_w, i32_w]; rw [c32b0]) | rw [c32b1] | skip)
   have H' := Aside0.mk H
   clear H
   go_wp2
   go_meet
   case rel => exact ⟨_, (true), (by first | rfl | (simp; done) | (simp [*]; done)), H', ⟨by first | omega | exact Nat.le_refl _⟩, ⟨by (with_reducible repeat (first | apply Kd.R_alloc | apply Kd.R_drewN | apply Kd.R_drew)); exact Kd.R_mono HO416.out (fun _ hk => ⟨hk.1.1, ⟨hk.2, hk.1.2.2.2⟩⟩)⟩, ⟨by (with_reducible repeat (first | apply Kd.R_alloc | apply Kd.R_drewN | apply Kd.R_drew)); exact Kd.R_mono HO419.out (fun _ hk => ⟨hk.1.1, ⟨hk.2, hk.1.2.2.2⟩⟩)⟩, ⟨by (with_reducible repeat (first | apply Kd.R_alloc | apply Kd.R_drewN | apply Kd.R_drew)); exact Kd.R_mono HO434.out (fun _ hk => ⟨hk.1, ⟨hk.2.1, hk.2.2.2.2⟩⟩)⟩, ⟨by refine bx ?_; exact BK413.out⟩, ⟨by repeat (first | (with_reducible first | exact HB.out | apply below_alloc | apply pw_below_drewN | apply below_drew1 | refine below_set ?_ GE413.out) | exact HB.out)⟩⟩
  rw [if_pos c32] at H
  have c32b0 : (t436 == 0) = true := beq_iff_eq.mpr c32
  have c32b1 : (t436 != 0) = false := bne_eq_false_iff_eq.mpr c32
  clear c32
  (first | rw [c32b0] | (simp only [i64_w, i32_w]; rw [c32b0]) | rw [c32b1] | skip)
  by_cases c33 : t438 = 0
  rotate_left
  ·rw [if_neg c33] at H
   have c33b0 : (t438 == 0) = false := beq_eq_false_iff_ne.mpr c33
   have c33b1 : (t438 != 0) = true := bne_iff_ne.mpr c33
   have H' := Aside0.mk H
   clear H
   go_wp2
   go_meet
   case rel => exact ⟨_, (true), (by first | rfl | (simp; done) | (simp [*]; done)), H', ⟨by first | omega | exact Nat.le_refl _⟩, ⟨by (with_reducible repeat (first | apply Kd.R_alloc | apply Kd.R_drewN | apply Kd.R_drew)); exact Kd.R_mono HO416.out (fun _ hk => ⟨hk.1.1, ⟨hk.2, hk.1.2.2.2⟩⟩)⟩, ⟨by (with_reducible repeat (first | apply Kd.R_alloc | apply Kd.R_drewN | apply Kd.R_drew)); exact Kd.R_mono HO419.out (fun _ hk => ⟨hk.1.1, ⟨hk.2, hk.1.2.2.2⟩⟩)⟩, ⟨by (with_reducible repeat (first | apply Kd.R_alloc | apply Kd.R_drewN | apply Kd.R_drew)); exact Kd.R_mono HO434.out (fun _ hk => ⟨hk.1, ⟨hk.2.1, hk.2.2.2.2⟩⟩)⟩, ⟨by refine bx ?_; exact BK413.out⟩, ⟨by repeat (first | (with_reducible first | exact HB.out | apply below_alloc | apply pw_below_drewN | apply below_drew1 | refine below_set ?_ GE413.out) | exact HB.out)⟩⟩
  rw [if_pos c33] at H
  have c33b0 : (t438 == 0) = true := beq_iff_eq.mpr c33
  have c33b1 : (t438 != 0) = false := bne_eq_false_iff_eq.mpr c33
  clear c33
  have H' := Aside0.mk H
  clear H
  go_wp2
  go_meet
  case rel => exact ⟨_, ((t440 != 0)), (by first | rfl | (simp; done) | (simp [*]; done)), H', ⟨by first | omega | exact Nat.le_refl _⟩, ⟨by (with_reducible repeat (first | apply Kd.R_alloc | apply Kd.R_drewN | apply Kd.R_drew)); exact Kd.R_mono HO416.out (fun _ hk => ⟨hk.1.1, ⟨hk.2, hk.1.2.2.2⟩⟩)⟩, ⟨by (with_reducible repeat (first | apply Kd.R_alloc | apply Kd.R_drewN | apply Kd.R_drew)); exact Kd.R_mono HO419.out (fun _ hk => ⟨hk.1.1, ⟨hk.2, hk.1.2.2.2⟩⟩)⟩, ⟨by (with_reducible repeat (first | apply Kd.R_alloc | apply Kd.R_drewN | apply Kd.R_drew)); exact Kd.R_mono HO434.out (fun _ hk => ⟨hk.1, ⟨hk.2.1, hk.2.2.2.2⟩⟩)⟩, ⟨by refine bx ?_; exact BK413.out⟩, ⟨by repeat (first | (with_reducible first | exact HB.out | apply below_alloc | apply pw_below_drewN | apply below_drew1 | refine below_set ?_ GE413.out) | exact HB.out)⟩⟩
 case rest =>
  clear HC12
  try clear c1
  try clear p2
  try clear c3
  try clear c4
  try clear c6
  try clear c8
  try clear c9
  try clear c10
  try clear c32
  try clear c32b0
  try clear c32b1
  try clear c33
  try clear c33b0
  try clear c33b1
  try clear hcz20_0
  try clear hcz20_1
  try clear hcz20_2
  try clear hcz20_3
  try clear hfz20_0
  try clear hfz20_1
  try clear hfz20_2
  try clear hfz20_3
  obtain ⟨kq, x51_11, rfl, HA, HJ11, HO_0, HO_1, HO_7, BK413, HB⟩ := hcut
  cases kq with
  | zero => exact absurd HA.out (by simp [withylaw04_KeyMore.j0])
  | succ kj11 =>
   have H := HA.out
   clear HA
   simp only [withylaw04_KeyMore.j0] at H
   by_cases c34 : x51_11 = true
   ·subst c34
    have H1 : ((withylaw04_right.f kj11 y432).bind fun t441 => (if t441 = true then ((withylaw04_right.f kj11 t417).bind fun t442 => (if t442 = true then (none) else ((withylaw04_fixed.f kj11).bind fun t443 => (some t443)))) else ((withylaw04_fixed.f kj11).bind fun t444 => (some t444)))) = some r := by rw [if_pos rfl] at H; exact H
    clear H
    have H := H1
    clear H1
    replace H := bM H
    obtain ⟨t441, A350, H⟩ := H
    replace H : (if t441 = true then ((withylaw04_right.f kj11 t417).bind fun t442 => (if t442 = true then (none) else ((withylaw04_fixed.f kj11).bind fun t443 => (some t443)))) else ((withylaw04_fixed.f kj11).bind fun t444 => (some t444))) = some r := H
    have A35 := Aside0.mk A350
    clear A350
    by_cases c36 : t441 = true
    rotate_left
    ·replace c36 := Bool.eq_false_iff.mpr c36
     subst c36
     have H1 : ((withylaw04_fixed.f kj11).bind fun t444 => (some t444)) = some r := by rw [if_neg (show ¬ (false = true) by decide)] at H; exact H
     clear H
     have H := H1
     clear H1
     replace H := bM H
     obtain ⟨t444, A430, H⟩ := H
     replace H : (some t444) = some r := H
     have A43 := Aside0.mk A430
     clear A430
     obtain rfl := Option.some.inj H
     go_wp2_with (first | ((with_reducible refine gate_callee (f := 17) rfl ?_); refine goesL_ (some 53) rfl rfl Tryd.func17 (by kernel_rfl) rfl #[.slice Ao28 y432.length co28] rfl aO ?_; (with_reducible refine (withylaw04_right.calls kj11 _ _ y432 false _ ?side1 ?side2 A35.out).mono ?_); (case side1 => repeat (first | exact (Kd.R_reads' HO_7.out).2.2 | (with_reducible refine Kd.C_alloc ?_ _) | (with_reducible refine Kd.C_drewN ?_ _) | (with_reducible refine Kd.C_drew ?_))); (case side2 => exact (Kd.R_reads' HO_7.out).2.1); rintro e w44 ⟨rfl, hb⟩; refine ⟨_, rfl, ?_⟩; replace HO_0 := as_ (Kd.R_below (by (with_reducible repeat (first | apply Kd.R_alloc | apply Kd.R_drewN | apply Kd.R_drew)); exact HO_0.out) hb); replace HO_1 := as_ (Kd.R_below (by (with_reducible repeat (first | apply Kd.R_alloc | apply Kd.R_drewN | apply Kd.R_drew)); exact HO_1.out) hb); replace HO_7 := as_ (Kd.R_below (by (with_reducible repeat (first | apply Kd.R_alloc | apply Kd.R_drewN | apply Kd.R_drew)); exact HO_7.out) hb); replace BK413 := bb BK413 hb; replace HB := as_ (below_step bA hb); (try clear hb); (try clear hb2); (try clear hk); (try clear hi)) | (go_at_call 21; (with_reducible refine (withylaw04_fixed.calls kj11  t444 _ A43.out).mono ?_); rintro e w45 ⟨rfl, hb⟩; replace HO_0 := as_ (Kd.R_below (by (with_reducible repeat (first | apply Kd.R_alloc | apply Kd.R_drewN | apply Kd.R_drew)); exact HO_0.out) hb); replace HO_1 := as_ (Kd.R_below (by (with_reducible repeat (first | apply Kd.R_alloc | apply Kd.R_drewN | apply Kd.R_drew)); exact HO_1.out) hb); replace HO_7 := as_ (Kd.R_below (by (with_reducible repeat (first | apply Kd.R_alloc | apply Kd.R_drewN | apply Kd.R_drew)); exact HO_7.out) hb); replace BK413 := bb BK413 hb; replace HB := as_ (below_step bA hb); (try clear hb); (try clear hb2); (try clear hk); (try clear hi)))
     go_ret
     exact ⟨eW, by repeat (first | (with_reducible first | exact HB.out | apply below_alloc | apply pw_below_drewN | apply below_drew1 | refine below_set ?_ GE413.out) | exact HB.out)⟩
    subst c36
    have H1 : ((withylaw04_right.f kj11 t417).bind fun t442 => (if t442 = true then (none) else ((withylaw04_fixed.f kj11).bind fun t443 => (some t443)))) = some r := by rw [if_pos rfl] at H; exact H
    clear H
    have H := H1
    clear H1
    replace H := bM H
    obtain ⟨t442, A370, H⟩ := H
    replace H : (if t442 = true then (none) else ((withylaw04_fixed.f kj11).bind fun t443 => (some t443))) = some r := H
    have A37 := Aside0.mk A370
    clear A370
    by_cases c38 : t442 = true
    ·subst c38
     have H1 : (none) = some r := by rw [if_pos rfl] at H; exact H
     clear H
     have H := H1
     clear H1
     exact absurd H (by simp)
    replace c38 := Bool.eq_false_iff.mpr c38
    subst c38
    have H1 : ((withylaw04_fixed.f kj11).bind fun t443 => (some t443)) = some r := by rw [if_neg (show ¬ (false = true) by decide)] at H; exact H
    clear H
    have H := H1
    clear H1
    replace H := bM H
    obtain ⟨t443, A390, H⟩ := H
    replace H : (some t443) = some r := H
    have A39 := Aside0.mk A390
    clear A390
    obtain rfl := Option.some.inj H
    go_wp2_with (first | ((with_reducible refine gate_callee (f := 17) rfl ?_); refine goesL_ (some 53) rfl rfl Tryd.func17 (by kernel_rfl) rfl #[.slice Ao28 y432.length co28] rfl aO ?_; (with_reducible refine (withylaw04_right.calls kj11 _ _ y432 true _ ?side1 ?side2 A35.out).mono ?_); (case side1 => repeat (first | exact (Kd.R_reads' HO_7.out).2.2 | (with_reducible refine Kd.C_alloc ?_ _) | (with_reducible refine Kd.C_drewN ?_ _) | (with_reducible refine Kd.C_drew ?_))); (case side2 => exact (Kd.R_reads' HO_7.out).2.1); rintro e w40 ⟨rfl, hb⟩; refine ⟨_, rfl, ?_⟩; replace HO_0 := as_ (Kd.R_below (by (with_reducible repeat (first | apply Kd.R_alloc | apply Kd.R_drewN | apply Kd.R_drew)); exact HO_0.out) hb); replace HO_1 := as_ (Kd.R_below (by (with_reducible repeat (first | apply Kd.R_alloc | apply Kd.R_drewN | apply Kd.R_drew)); exact HO_1.out) hb); replace HO_7 := as_ (Kd.R_below (by (with_reducible repeat (first | apply Kd.R_alloc | apply Kd.R_drewN | apply Kd.R_drew)); exact HO_7.out) hb); replace BK413 := bb BK413 hb; replace HB := as_ (below_step bA hb); (try clear hb); (try clear hb2); (try clear hk); (try clear hi)) | (go_at_call 17; (with_reducible refine (withylaw04_right.calls kj11 _ _ t417 false _ ?side1 ?side2 A37.out).mono ?_); (case side1 => repeat (first | exact (Kd.R_reads' HO_1.out).2.2 | (with_reducible refine Kd.C_alloc ?_ _) | (with_reducible refine Kd.C_drewN ?_ _) | (with_reducible refine Kd.C_drew ?_))); (case side2 => exact (Kd.R_reads' HO_1.out).2.1); rintro e w41 ⟨rfl, hb⟩; replace HO_0 := as_ (Kd.R_below (by (with_reducible repeat (first | apply Kd.R_alloc | apply Kd.R_drewN | apply Kd.R_drew)); exact HO_0.out) hb); replace HO_1 := as_ (Kd.R_below (by (with_reducible repeat (first | apply Kd.R_alloc | apply Kd.R_drewN | apply Kd.R_drew)); exact HO_1.out) hb); replace HO_7 := as_ (Kd.R_below (by (with_reducible repeat (first | apply Kd.R_alloc | apply Kd.R_drewN | apply Kd.R_drew)); exact HO_7.out) hb); replace BK413 := bb BK413 hb; replace HB := as_ (below_step bA hb); (try clear hb); (try clear hb2); (try clear hk); (try clear hi)) | (go_at_call 21; (with_reducible refine (withylaw04_fixed.calls kj11  t443 _ A39.out).mono ?_); rintro e w42 ⟨rfl, hb⟩; replace HO_0 := as_ (Kd.R_below (by (with_reducible repeat (first | apply Kd.R_alloc | apply Kd.R_drewN | apply Kd.R_drew)); exact HO_0.out) hb); replace HO_1 := as_ (Kd.R_below (by (with_reducible repeat (first | apply Kd.R_alloc | apply Kd.R_drewN | apply Kd.R_drew)); exact HO_1.out) hb); replace HO_7 := as_ (Kd.R_below (by (with_reducible repeat (first | apply Kd.R_alloc | apply Kd.R_drewN | apply Kd.R_drew)); exact HO_7.out) hb); replace BK413 := bb BK413 hb; replace HB := as_ (below_step bA hb); (try clear hb); (try clear hb2); (try clear hk); (try clear hi)))
    go_ret
    exact ⟨eW, by repeat (first | (with_reducible first | exact HB.out | apply below_alloc | apply pw_below_drewN | apply below_drew1 | refine below_set ?_ GE413.out) | exact HB.out)⟩
   replace c34 := Bool.eq_false_iff.mpr c34
   subst c34
   have H1 : (if (t417.length : Int) ≥ (t414.length : Int) then (if 0 ≤ (mn (t414.length : Int) (t417.length : Int)) then (if (mn (t414.length : Int) (t417.length : Int)) ≤ (t417.length : Int) then ((withylaw04_Ref.f kj11 (t417.take ((mn (t414.length : Int) (t417.length : Int)) : Int).toNat)).bind fun t449 => ((withylaw04_Ref.f kj11 t414).bind fun t452 => ((withyref04_Same.f kj11 t449 t452).bind fun t455 => (if (Op.bytesLess t435.toList t437.toList) = true then ((key_Compare.f kj11 t414 y432).bind fun t456 => (if t456 = (-1) then (if t455 = true then ((withylaw04_fixed.f kj11).bind fun t457 => (some t457)) else (if ((Op.bytesLess t435.toList t439.toList) == (Op.bytesLess t437.toList t439.toList)) = true then ((withylaw04_fixed.f kj11).bind fun t458 => (some t458)) else (none))) else (none))) else (none))))) else (none)) else (none)) else (if (Op.bytesLess t435.toList t437.toList) = true then ((key_Compare.f kj11 t414 y432).bind fun t459 => (if t459 = (-1) then (if ((Op.bytesLess t435.toList t439.toList) == (Op.bytesLess t437.toList t439.toList)) = true then ((withylaw04_fixed.f kj11).bind fun t460 => (some t460)) else (none)) else (none))) else (none))) = some r := by rw [if_neg (show ¬ (false = true) by decide)] at H; exact H
   clear H
   have H := H1
   clear H1
   by_cases c46 : (t417.length : Int) ≥ (t414.length : Int)
   rotate_left
   ·rw [if_neg c46] at H
    have c46b0 : decide ((t414.length : Int) ≤ (t417.length : Int)) = false := decide_eq_false c46
    have c46b1 : decide (t414.length ≤ t417.length) = false := decide_eq_false (fun h => c46 (Int.ofNat_le.mpr h))
    clear c46
    by_cases c74 : (Op.bytesLess t435.toList t437.toList) = true
    rotate_left
    ·rw [if_neg c74] at H
     exact absurd H (by simp)
    rw [if_pos c74] at H
    have c74b0 : (Op.bytesLess t435.toList t437.toList) = true := c74
    clear c74
    replace H := bM H
    obtain ⟨t459, A750, H⟩ := H
    replace H : (if t459 = (-1) then (if ((Op.bytesLess t435.toList t439.toList) == (Op.bytesLess t437.toList t439.toList)) = true then ((withylaw04_fixed.f kj11).bind fun t460 => (some t460)) else (none)) else (none)) = some r := H
    have A75 := Aside0.mk A750
    clear A750
    by_cases c76 : t459 = (-1)
    rotate_left
    ·rw [if_neg c76] at H
     exact absurd H (by simp)
    rw [if_pos c76] at H
    have c76b0 : (t459 == (-1)) = true := beq_iff_eq.mpr c76
    have c76b1 : (t459 != (-1)) = false := bne_eq_false_iff_eq.mpr c76
    clear c76
    by_cases c77 : ((Op.bytesLess t435.toList t439.toList) == (Op.bytesLess t437.toList t439.toList)) = true
    rotate_left
    ·rw [if_neg c77] at H
     exact absurd H (by simp)
    rw [if_pos c77] at H
    have c77b0 : ((Op.bytesLess t435.toList t439.toList) == (Op.bytesLess t437.toList t439.toList)) = true := c77
    (try (have c77b1 : decide ((Op.bytesLess t435.toList t439.toList) = (Op.bytesLess t437.toList t439.toList)) = true := by simpa using c77))
    (try (have c77b2 : ((Op.bytesLess t435.toList t439.toList) == (Op.bytesLess t437.toList t439.toList)) = true := by simpa using c77))
    clear c77
    replace H := bM H
    obtain ⟨t460, A780, H⟩ := H
    replace H : (some t460) = some r := H
    have A78 := Aside0.mk A780
    clear A780
    obtain rfl := Option.some.inj H
    go_wp2_with (first | (go_at_call 18; (with_reducible refine (key_Compare.calls kj11 _ _ t414 _ _ y432 t459 _ ?side1 ?side2 ?side3 ?side4 A75.out).mono ?_); (case side1 => repeat (first | exact (Kd.R_reads' HO_0.out).2.2 | (with_reducible refine Kd.C_alloc ?_ _) | (with_reducible refine Kd.C_drewN ?_ _) | (with_reducible refine Kd.C_drew ?_))); (case side2 => exact (Kd.R_reads' HO_0.out).2.1); (case side3 => repeat (first | exact (Kd.R_reads' HO_7.out).2.2 | (with_reducible refine Kd.C_alloc ?_ _) | (with_reducible refine Kd.C_drewN ?_ _) | (with_reducible refine Kd.C_drew ?_))); (case side4 => exact (Kd.R_reads' HO_7.out).2.1); rintro e w79 ⟨rfl, hb⟩; replace HO_0 := as_ (Kd.R_below (by (with_reducible repeat (first | apply Kd.R_alloc | apply Kd.R_drewN | apply Kd.R_drew)); exact HO_0.out) hb); replace HO_1 := as_ (Kd.R_below (by (with_reducible repeat (first | apply Kd.R_alloc | apply Kd.R_drewN | apply Kd.R_drew)); exact HO_1.out) hb); replace HO_7 := as_ (Kd.R_below (by (with_reducible repeat (first | apply Kd.R_alloc | apply Kd.R_drewN | apply Kd.R_drew)); exact HO_7.out) hb); replace BK413 := bb BK413 hb; replace HB := as_ (below_step bA hb); (try clear hb); (try clear hb2); (try clear hk); (try clear hi)) | (go_at_call 21; (with_reducible refine (withylaw04_fixed.calls kj11  t460 _ A78.out).mono ?_); rintro e w80 ⟨rfl, hb⟩; replace HO_0 := as_ (Kd.R_below (by (with_reducible repeat (first | apply Kd.R_alloc | apply Kd.R_drewN | apply Kd.R_drew)); exact HO_0.out) hb); replace HO_1 := as_ (Kd.R_below (by (with_reducible repeat (first | apply Kd.R_alloc | apply Kd.R_drewN | apply Kd.R_drew)); exact HO_1.out) hb); replace HO_7 := as_ (Kd.R_below (by (with_reducible repeat (first | apply Kd.R_alloc | apply Kd.R_drewN | apply Kd.R_drew)); exact HO_7.out) hb); replace BK413 := bb BK413 hb; replace HB := as_ (below_step bA hb); (try clear hb); (try clear hb2); (try clear hk); (try clear hi)))
    go_ret
    exact ⟨eW, by repeat (first | (with_reducible first | exact HB.out | apply below_alloc | apply pw_below_drewN | apply below_drew1 | refine below_set ?_ GE413.out) | exact HB.out)⟩
   rw [if_pos c46] at H
   have c46b0 : decide ((t414.length : Int) ≤ (t417.length : Int)) = true := decide_eq_true c46
   have c46b1 : decide (t414.length ≤ t417.length) = true := decide_eq_true (Int.ofNat_le.mp c46)
   clear c46
   obtain ⟨ji47, hji47⟩ : ∃ j_ : Int, (mn (t414.length : Int) (t417.length : Int)) = j_ := ⟨_, rfl⟩
   replace H : (if 0 ≤ (ji47) then (if (ji47) ≤ (t417.length : Int) then ((withylaw04_Ref.f kj11 (t417.take ((ji47) : Int).toNat)).bind fun t449 => ((withylaw04_Ref.f kj11 t414).bind fun t452 => ((withyref04_Same.f kj11 t449 t452).bind fun t455 => (if (Op.bytesLess t435.toList t437.toList) = true then ((key_Compare.f kj11 t414 y432).bind fun t456 => (if t456 = (-1) then (if t455 = true then ((withylaw04_fixed.f kj11).bind fun t457 => (some t457)) else (if ((Op.bytesLess t435.toList t439.toList) == (Op.bytesLess t437.toList t439.toList)) = true then ((withylaw04_fixed.f kj11).bind fun t458 => (some t458)) else (none))) else (none))) else (none))))) else (none)) else (none)) = some r := by first | (rw [hji47] at H; exact H) | (simp only [hji47] at H ⊢; exact H)
   have hji47_ : (if (t417.length : Int) < (t414.length : Int) then (t417.length : Int) else (t414.length : Int)) = ji47 := hji47
   (try (have hji47n : (if t417.length < t414.length then (t417.length : Int) else (t414.length : Int)) = ji47 := by simpa only [Int.ofNat_lt] using hji47_))
   by_cases c48 : 0 ≤ (ji47)
   rotate_left
   ·rw [if_neg c48] at H
    exact absurd H (by simp)
   rw [if_pos c48] at H
   have c48b0 := eq_true c48
   have c48b1 : decide (0 ≤ (ji47)) = true := decide_eq_true c48
   clear c48
   by_cases c49 : (ji47) ≤ (t417.length : Int)
   rotate_left
   ·rw [if_neg c49] at H
    exact absurd H (by simp)
   rw [if_pos c49] at H
   have c49b0 := eq_true c49
   have c49b1 : decide ((ji47) ≤ (t417.length : Int)) = true := decide_eq_true c49
   clear c49
   obtain ⟨y445, hy445⟩ : ∃ y_ : List (S51), y_ = (t417.take ((ji47) : Int).toNat) := ⟨_, rfl⟩
   replace H : ((withylaw04_Ref.f kj11 y445).bind fun t449 => ((withylaw04_Ref.f kj11 t414).bind fun t452 => ((withyref04_Same.f kj11 t449 t452).bind fun t455 => (if (Op.bytesLess t435.toList t437.toList) = true then ((key_Compare.f kj11 t414 y432).bind fun t456 => (if t456 = (-1) then (if t455 = true then ((withylaw04_fixed.f kj11).bind fun t457 => (some t457)) else (if ((Op.bytesLess t435.toList t439.toList) == (Op.bytesLess t437.toList t439.toList)) = true then ((withylaw04_fixed.f kj11).bind fun t458 => (some t458)) else (none))) else (none))) else (none))))) = some r := by first | (rw [hy445]; with_reducible exact H) | (have H2_ := (Option.bind_some _ _).symm.trans H; rw [hy445]; with_reducible exact H2_) | (have H2_ := (Option.bind_some _ _).symm.trans H; with_reducible exact H2_) | with_reducible exact H | (rw [hy445]; exact H) | exact H
   have Ny445 := Aside0.mk hy445
   clear hy445
   replace H := bM H
   obtain ⟨t449, A500, H⟩ := H
   replace H : ((withylaw04_Ref.f kj11 t414).bind fun t452 => ((withyref04_Same.f kj11 t449 t452).bind fun t455 => (if (Op.bytesLess t435.toList t437.toList) = true then ((key_Compare.f kj11 t414 y432).bind fun t456 => (if t456 = (-1) then (if t455 = true then ((withylaw04_fixed.f kj11).bind fun t457 => (some t457)) else (if ((Op.bytesLess t435.toList t439.toList) == (Op.bytesLess t437.toList t439.toList)) = true then ((withylaw04_fixed.f kj11).bind fun t458 => (some t458)) else (none))) else (none))) else (none)))) = some r := H
   have A50 := Aside0.mk A500
   clear A500
   replace H := bM H
   obtain ⟨t452, A510, H⟩ := H
   replace H : ((withyref04_Same.f kj11 t449 t452).bind fun t455 => (if (Op.bytesLess t435.toList t437.toList) = true then ((key_Compare.f kj11 t414 y432).bind fun t456 => (if t456 = (-1) then (if t455 = true then ((withylaw04_fixed.f kj11).bind fun t457 => (some t457)) else (if ((Op.bytesLess t435.toList t439.toList) == (Op.bytesLess t437.toList t439.toList)) = true then ((withylaw04_fixed.f kj11).bind fun t458 => (some t458)) else (none))) else (none))) else (none))) = some r := H
   have A51 := Aside0.mk A510
   clear A510
   replace H := bM H
   obtain ⟨t455, A520, H⟩ := H
   replace H : (if (Op.bytesLess t435.toList t437.toList) = true then ((key_Compare.f kj11 t414 y432).bind fun t456 => (if t456 = (-1) then (if t455 = true then ((withylaw04_fixed.f kj11).bind fun t457 => (some t457)) else (if ((Op.bytesLess t435.toList t439.toList) == (Op.bytesLess t437.toList t439.toList)) = true then ((withylaw04_fixed.f kj11).bind fun t458 => (some t458)) else (none))) else (none))) else (none)) = some r := H
   have A52 := Aside0.mk A520
   clear A520
   by_cases c53 : (Op.bytesLess t435.toList t437.toList) = true
   rotate_left
   ·rw [if_neg c53] at H
    exact absurd H (by simp)
   rw [if_pos c53] at H
   have c53b0 : (Op.bytesLess t435.toList t437.toList) = true := c53
   clear c53
   replace H := bM H
   obtain ⟨t456, A540, H⟩ := H
   replace H : (if t456 = (-1) then (if t455 = true then ((withylaw04_fixed.f kj11).bind fun t457 => (some t457)) else (if ((Op.bytesLess t435.toList t439.toList) == (Op.bytesLess t437.toList t439.toList)) = true then ((withylaw04_fixed.f kj11).bind fun t458 => (some t458)) else (none))) else (none)) = some r := H
   have A54 := Aside0.mk A540
   clear A540
   by_cases c55 : t456 = (-1)
   rotate_left
   ·rw [if_neg c55] at H
    exact absurd H (by simp)
   rw [if_pos c55] at H
   have c55b0 : (t456 == (-1)) = true := beq_iff_eq.mpr c55
   have c55b1 : (t456 != (-1)) = false := bne_eq_false_iff_eq.mpr c55
   clear c55
   by_cases c56 : t455 = true
   ·subst c56
    have H1 : ((withylaw04_fixed.f kj11).bind fun t457 => (some t457)) = some r := by rw [if_pos rfl] at H; exact H
    clear H
    have H := H1
    clear H1
    replace H := bM H
    obtain ⟨t457, A570, H⟩ := H
    replace H : (some t457) = some r := H
    have A57 := Aside0.mk A570
    clear A570
    obtain rfl := Option.some.inj H
    have q58 : ((ji47) : Int) ≤ ((t417.length : Int) : Int) := of_decide_eq_true aM
    obtain ⟨i058, hi058, _, hsz58, _⟩ := info_parts info51
    have hroom58 : t417.length ≤ co30 := (Kd.R_reads' HO_1.out).2.1
    have hC58 : Kd.C k51 _ Ao30 t417.length t417 := (Kd.R_reads' HO_1.out).2.2
    have hcut58 := cut_to (P := Tryd.prog) 22 51 .i64 Tryd.underlying22 hi058 Ao30 t417.length co30 (ji47) (of_decide_eq_true aM) q58 hroom58
    have hr58 := Kd.C_take (m := ((ji47) : Int).toNat) hC58 (by omega)
    have hy58 : y445.length = ((ji47) : Int).toNat := (by rw [Ny445.out, List.length_take]; omega)
    rw [← Ny445.out] at hr58
    rw [← hy58] at hcut58
    have HR448 := Aside0.mk hr58
    have HC448 := as_ (show y445.length ≤ co30 from by omega)
    clear hr58 hC58 hroom58 hi058 hsz58
    have KY58 := Aside0.mk hy58
    clear hy58
    have KL58 := as_ (show ((ji47) : Int).toNat ≤ t417.length from by omega)
    replace q58 := eq_true q58
    go_wp2_with (first | (go_at_call 12; (with_reducible refine (withylaw04_Ref.calls kj11 _ _ y445 t449 _ ?side1 ?side2 A50.out).mono ?_); (case side1 => repeat (first | exact (by repeat (first | (with_reducible exact HR448.out) | (with_reducible refine Kd.C_alloc ?_ _) | (with_reducible refine Kd.C_drewN ?_ _) | (with_reducible refine Kd.C_drew ?_) | exact HR448.out)) | (with_reducible refine Kd.C_alloc ?_ _) | (with_reducible refine Kd.C_drewN ?_ _) | (with_reducible refine Kd.C_drew ?_))); (case side2 => exact HC448.out); rintro e w59 ⟨v450, rfl, ho0, hb⟩; have HO451 := as_ (Kd.R_lower ho0 (below_size bA)); replace HO_0 := as_ (Kd.R_below (by (with_reducible repeat (first | apply Kd.R_alloc | apply Kd.R_drewN | apply Kd.R_drew)); exact HO_0.out) hb); replace HO_1 := as_ (Kd.R_below (by (with_reducible repeat (first | apply Kd.R_alloc | apply Kd.R_drewN | apply Kd.R_drew)); exact HO_1.out) hb); replace HO_7 := as_ (Kd.R_below (by (with_reducible repeat (first | apply Kd.R_alloc | apply Kd.R_drewN | apply Kd.R_drew)); exact HO_7.out) hb); replace BK413 := bb BK413 hb; replace HR448 := as_ (Kd.C_below (by repeat (first | (with_reducible exact HR448.out) | (with_reducible refine Kd.C_alloc ?_ _) | (with_reducible refine Kd.C_drewN ?_ _) | (with_reducible refine Kd.C_drew ?_) | exact HR448.out)) hb); replace HB := as_ (below_step bA hb); (try clear hb); (try clear hb2); (try clear hk); (try clear hi); (try clear ho0)) | (go_at_call 12; (with_reducible refine (withylaw04_Ref.calls kj11 _ _ t414 t452 _ ?side1 ?side2 A51.out).mono ?_); (case side1 => repeat (first | exact (Kd.R_reads' HO_0.out).2.2 | (with_reducible refine Kd.C_alloc ?_ _) | (with_reducible refine Kd.C_drewN ?_ _) | (with_reducible refine Kd.C_drew ?_))); (case side2 => exact (Kd.R_reads' HO_0.out).2.1); rintro e w60 ⟨v453, rfl, ho0, hb⟩; have HO454 := as_ (Kd.R_lower (Kd.R_new' ho0 (Kd.R_lt (by (with_reducible repeat (first | apply Kd.R_alloc | apply Kd.R_drewN | apply Kd.R_drew)); exact HO451.out))) (below_size bA)); replace HO_0 := as_ (Kd.R_below (by (with_reducible repeat (first | apply Kd.R_alloc | apply Kd.R_drewN | apply Kd.R_drew)); exact HO_0.out) hb); replace HO_1 := as_ (Kd.R_below (by (with_reducible repeat (first | apply Kd.R_alloc | apply Kd.R_drewN | apply Kd.R_drew)); exact HO_1.out) hb); replace HO_7 := as_ (Kd.R_below (by (with_reducible repeat (first | apply Kd.R_alloc | apply Kd.R_drewN | apply Kd.R_drew)); exact HO_7.out) hb); replace HO451 := as_ (Kd.R_elder' (by (with_reducible repeat (first | apply Kd.R_alloc | apply Kd.R_drewN | apply Kd.R_drew)); exact HO451.out) (Kd.R_base ho0) hb); replace BK413 := bb BK413 hb; replace HR448 := as_ (Kd.C_below (by repeat (first | (with_reducible exact HR448.out) | (with_reducible refine Kd.C_alloc ?_ _) | (with_reducible refine Kd.C_drewN ?_ _) | (with_reducible refine Kd.C_drew ?_) | exact HR448.out)) hb); replace HB := as_ (below_step bA hb); (try clear hb); (try clear hb2); (try clear hk); (try clear hi); (try clear ho0); obtain ⟨Ao61, co61, eo61⟩ := Kd.R_slice HO451.out; subst eo61; obtain ⟨Ao62, co62, eo62⟩ := Kd.R_slice HO454.out; subst eo62) | (go_at_call 20; (with_reducible refine (withyref04_Same.calls kj11 _ _ t449 _ _ t452 true _ ?side1 ?side2 ?side3 ?side4 A52.out).mono ?_); (case side1 => repeat (first | exact (Kd.R_reads' HO451.out).2.2 | (with_reducible refine Kd.C_alloc ?_ _) | (with_reducible refine Kd.C_drewN ?_ _) | (with_reducible refine Kd.C_drew ?_))); (case side2 => exact (Kd.R_reads' HO451.out).2.1); (case side3 => repeat (first | exact (Kd.R_reads' HO454.out).2.2 | (with_reducible refine Kd.C_alloc ?_ _) | (with_reducible refine Kd.C_drewN ?_ _) | (with_reducible refine Kd.C_drew ?_))); (case side4 => exact (Kd.R_reads' HO454.out).2.1); rintro e w' ⟨rfl, ⟨nd, rfl⟩⟩) | (go_at_call 18; (with_reducible refine (key_Compare.calls kj11 _ _ t414 _ _ y432 t456 _ ?side1 ?side2 ?side3 ?side4 A54.out).mono ?_); (case side1 => repeat (first | exact (Kd.R_reads' HO_0.out).2.2 | (with_reducible refine Kd.C_alloc ?_ _) | (with_reducible refine Kd.C_drewN ?_ _) | (with_reducible refine Kd.C_drew ?_))); (case side2 => exact (Kd.R_reads' HO_0.out).2.1); (case side3 => repeat (first | exact (Kd.R_reads' HO_7.out).2.2 | (with_reducible refine Kd.C_alloc ?_ _) | (with_reducible refine Kd.C_drewN ?_ _) | (with_reducible refine Kd.C_drew ?_))); (case side4 => exact (Kd.R_reads' HO_7.out).2.1); rintro e w63 ⟨rfl, hb⟩; replace HO_0 := as_ (Kd.R_below (by (with_reducible repeat (first | apply Kd.R_alloc | apply Kd.R_drewN | apply Kd.R_drew)); exact HO_0.out) hb); replace HO_1 := as_ (Kd.R_below (by (with_reducible repeat (first | apply Kd.R_alloc | apply Kd.R_drewN | apply Kd.R_drew)); exact HO_1.out) hb); replace HO_7 := as_ (Kd.R_below (by (with_reducible repeat (first | apply Kd.R_alloc | apply Kd.R_drewN | apply Kd.R_drew)); exact HO_7.out) hb); replace HO451 := as_ (Kd.R_below (by (with_reducible repeat (first | apply Kd.R_alloc | apply Kd.R_drewN | apply Kd.R_drew)); exact HO451.out) hb); replace HO454 := as_ (Kd.R_below (by (with_reducible repeat (first | apply Kd.R_alloc | apply Kd.R_drewN | apply Kd.R_drew)); exact HO454.out) hb); replace BK413 := bb BK413 hb; replace HR448 := as_ (Kd.C_below (by repeat (first | (with_reducible exact HR448.out) | (with_reducible refine Kd.C_alloc ?_ _) | (with_reducible refine Kd.C_drewN ?_ _) | (with_reducible refine Kd.C_drew ?_) | exact HR448.out)) hb); replace HB := as_ (below_step bA hb); (try clear hb); (try clear hb2); (try clear hk); (try clear hi)) | (go_at_call 21; (with_reducible refine (withylaw04_fixed.calls kj11  t457 _ A57.out).mono ?_); rintro e w64 ⟨rfl, hb⟩; replace HO_0 := as_ (Kd.R_below (by (with_reducible repeat (first | apply Kd.R_alloc | apply Kd.R_drewN | apply Kd.R_drew)); exact HO_0.out) hb); replace HO_1 := as_ (Kd.R_below (by (with_reducible repeat (first | apply Kd.R_alloc | apply Kd.R_drewN | apply Kd.R_drew)); exact HO_1.out) hb); replace HO_7 := as_ (Kd.R_below (by (with_reducible repeat (first | apply Kd.R_alloc | apply Kd.R_drewN | apply Kd.R_drew)); exact HO_7.out) hb); replace HO451 := as_ (Kd.R_below (by (with_reducible repeat (first | apply Kd.R_alloc | apply Kd.R_drewN | apply Kd.R_drew)); exact HO451.out) hb); replace HO454 := as_ (Kd.R_below (by (with_reducible repeat (first | apply Kd.R_alloc | apply Kd.R_drewN | apply Kd.R_drew)); exact HO454.out) hb); replace BK413 := bb BK413 hb; replace HR448 := as_ (Kd.C_below (by repeat (first | (with_reducible exact HR448.out) | (with_reducible refine Kd.C_alloc ?_ _) | (with_reducible refine Kd.C_drewN ?_ _) | (with_reducible refine Kd.C_drew ?_) | exact HR448.out)) hb); replace HB := as_ (below_step bA hb); (try clear hb); (try clear hb2); (try clear hk); (try clear hi)))
    go_ret
    exact ⟨by first | rfl | (simp [errW_none, errW_some] <;> rfl) | (simp only [← hji47]; first | rfl | (simp [errW_none, errW_some] <;> rfl)) | (simp [*, errW_none, errW_some] <;> rfl), by repeat (first | (with_reducible first | exact HB.out | apply below_alloc | apply pw_below_drewN | apply below_drew1 | refine below_set ?_ GE413.out) | exact HB.out)⟩
   replace c56 := Bool.eq_false_iff.mpr c56
   subst c56
   have H1 : (if ((Op.bytesLess t435.toList t439.toList) == (Op.bytesLess t437.toList t439.toList)) = true then ((withylaw04_fixed.f kj11).bind fun t458 => (some t458)) else (none)) = some r := by rw [if_neg (show ¬ (false = true) by decide)] at H; exact H
   clear H
   have H := H1
   clear H1
   by_cases c65 : ((Op.bytesLess t435.toList t439.toList) == (Op.bytesLess t437.toList t439.toList)) = true
   rotate_left
   ·rw [if_neg c65] at H
    exact absurd H (by simp)
   rw [if_pos c65] at H
   have c65b0 : ((Op.bytesLess t435.toList t439.toList) == (Op.bytesLess t437.toList t439.toList)) = true := c65
   (try (have c65b1 : decide ((Op.bytesLess t435.toList t439.toList) = (Op.bytesLess t437.toList t439.toList)) = true := by simpa using c65))
   (try (have c65b2 : ((Op.bytesLess t435.toList t439.toList) == (Op.bytesLess t437.toList t439.toList)) = true := by simpa using c65))
   clear c65
   replace H := bM H
   obtain ⟨t458, A660, H⟩ := H
   replace H : (some t458) = some r := H
   have A66 := Aside0.mk A660
   clear A660
   obtain rfl := Option.some.inj H
   have q67 : ((ji47) : Int) ≤ ((t417.length : Int) : Int) := of_decide_eq_true aM
   obtain ⟨i067, hi067, _, hsz67, _⟩ := info_parts info51
   have hroom67 : t417.length ≤ co30 := (Kd.R_reads' HO_1.out).2.1
   have hC67 : Kd.C k51 _ Ao30 t417.length t417 := (Kd.R_reads' HO_1.out).2.2
   (try clear hcut58)
   have hcut67 := cut_to (P := Tryd.prog) 22 51 .i64 Tryd.underlying22 hi067 Ao30 t417.length co30 (ji47) (of_decide_eq_true aM) q67 hroom67
   have hr67 := Kd.C_take (m := ((ji47) : Int).toNat) hC67 (by omega)
   have hy67 : y445.length = ((ji47) : Int).toNat := (by rw [Ny445.out, List.length_take]; omega)
   rw [← Ny445.out] at hr67
   rw [← hy67] at hcut67
   have HR448 := Aside0.mk hr67
   have HC448 := as_ (show y445.length ≤ co30 from by omega)
   clear hr67 hC67 hroom67 hi067 hsz67
   have KY67 := Aside0.mk hy67
   clear hy67
   have KL67 := as_ (show ((ji47) : Int).toNat ≤ t417.length from by omega)
   replace q67 := eq_true q67
   go_wp2_with (first | (go_at_call 12; (with_reducible refine (withylaw04_Ref.calls kj11 _ _ y445 t449 _ ?side1 ?side2 A50.out).mono ?_); (case side1 => repeat (first | exact (by repeat (first | (with_reducible exact HR448.out) | (with_reducible refine Kd.C_alloc ?_ _) | (with_reducible refine Kd.C_drewN ?_ _) | (with_reducible refine Kd.C_drew ?_) | exact HR448.out)) | (with_reducible refine Kd.C_alloc ?_ _) | (with_reducible refine Kd.C_drewN ?_ _) | (with_reducible refine Kd.C_drew ?_))); (case side2 => exact HC448.out); rintro e w68 ⟨v450, rfl, ho0, hb⟩; have HO451 := as_ (Kd.R_lower ho0 (below_size bA)); replace HO_0 := as_ (Kd.R_below (by (with_reducible repeat (first | apply Kd.R_alloc | apply Kd.R_drewN | apply Kd.R_drew)); exact HO_0.out) hb); replace HO_1 := as_ (Kd.R_below (by (with_reducible repeat (first | apply Kd.R_alloc | apply Kd.R_drewN | apply Kd.R_drew)); exact HO_1.out) hb); replace HO_7 := as_ (Kd.R_below (by (with_reducible repeat (first | apply Kd.R_alloc | apply Kd.R_drewN | apply Kd.R_drew)); exact HO_7.out) hb); replace BK413 := bb BK413 hb; replace HR448 := as_ (Kd.C_below (by repeat (first | (with_reducible exact HR448.out) | (with_reducible refine Kd.C_alloc ?_ _) | (with_reducible refine Kd.C_drewN ?_ _) | (with_reducible refine Kd.C_drew ?_) | exact HR448.out)) hb); replace HB := as_ (below_step bA hb); (try clear hb); (try clear hb2); (try clear hk); (try clear hi); (try clear ho0)) | (go_at_call 12; (with_reducible refine (withylaw04_Ref.calls kj11 _ _ t414 t452 _ ?side1 ?side2 A51.out).mono ?_); (case side1 => repeat (first | exact (Kd.R_reads' HO_0.out).2.2 | (with_reducible refine Kd.C_alloc ?_ _) | (with_reducible refine Kd.C_drewN ?_ _) | (with_reducible refine Kd.C_drew ?_))); (case side2 => exact (Kd.R_reads' HO_0.out).2.1); rintro e w69 ⟨v453, rfl, ho0, hb⟩; have HO454 := as_ (Kd.R_lower (Kd.R_new' ho0 (Kd.R_lt (by (with_reducible repeat (first | apply Kd.R_alloc | apply Kd.R_drewN | apply Kd.R_drew)); exact HO451.out))) (below_size bA)); replace HO_0 := as_ (Kd.R_below (by (with_reducible repeat (first | apply Kd.R_alloc | apply Kd.R_drewN | apply Kd.R_drew)); exact HO_0.out) hb); replace HO_1 := as_ (Kd.R_below (by (with_reducible repeat (first | apply Kd.R_alloc | apply Kd.R_drewN | apply Kd.R_drew)); exact HO_1.out) hb); replace HO_7 := as_ (Kd.R_below (by (with_reducible repeat (first | apply Kd.R_alloc | apply Kd.R_drewN | apply Kd.R_drew)); exact HO_7.out) hb); replace HO451 := as_ (Kd.R_elder' (by (with_reducible repeat (first | apply Kd.R_alloc | apply Kd.R_drewN | apply Kd.R_drew)); exact HO451.out) (Kd.R_base ho0) hb); replace BK413 := bb BK413 hb; replace HR448 := as_ (Kd.C_below (by repeat (first | (with_reducible exact HR448.out) | (with_reducible refine Kd.C_alloc ?_ _) | (with_reducible refine Kd.C_drewN ?_ _) | (with_reducible refine Kd.C_drew ?_) | exact HR448.out)) hb); replace HB := as_ (below_step bA hb); (try clear hb); (try clear hb2); (try clear hk); (try clear hi); (try clear ho0); obtain ⟨Ao70, co70, eo70⟩ := Kd.R_slice HO451.out; subst eo70; obtain ⟨Ao71, co71, eo71⟩ := Kd.R_slice HO454.out; subst eo71) | (go_at_call 20; (with_reducible refine (withyref04_Same.calls kj11 _ _ t449 _ _ t452 false _ ?side1 ?side2 ?side3 ?side4 A52.out).mono ?_); (case side1 => repeat (first | exact (Kd.R_reads' HO451.out).2.2 | (with_reducible refine Kd.C_alloc ?_ _) | (with_reducible refine Kd.C_drewN ?_ _) | (with_reducible refine Kd.C_drew ?_))); (case side2 => exact (Kd.R_reads' HO451.out).2.1); (case side3 => repeat (first | exact (Kd.R_reads' HO454.out).2.2 | (with_reducible refine Kd.C_alloc ?_ _) | (with_reducible refine Kd.C_drewN ?_ _) | (with_reducible refine Kd.C_drew ?_))); (case side4 => exact (Kd.R_reads' HO454.out).2.1); rintro e w' ⟨rfl, ⟨nd, rfl⟩⟩) | (go_at_call 18; (with_reducible refine (key_Compare.calls kj11 _ _ t414 _ _ y432 t456 _ ?side1 ?side2 ?side3 ?side4 A54.out).mono ?_); (case side1 => repeat (first | exact (Kd.R_reads' HO_0.out).2.2 | (with_reducible refine Kd.C_alloc ?_ _) | (with_reducible refine Kd.C_drewN ?_ _) | (with_reducible refine Kd.C_drew ?_))); (case side2 => exact (Kd.R_reads' HO_0.out).2.1); (case side3 => repeat (first | exact (Kd.R_reads' HO_7.out).2.2 | (with_reducible refine Kd.C_alloc ?_ _) | (with_reducible refine Kd.C_drewN ?_ _) | (with_reducible refine Kd.C_drew ?_))); (case side4 => exact (Kd.R_reads' HO_7.out).2.1); rintro e w72 ⟨rfl, hb⟩; replace HO_0 := as_ (Kd.R_below (by (with_reducible repeat (first | apply Kd.R_alloc | apply Kd.R_drewN | apply Kd.R_drew)); exact HO_0.out) hb); replace HO_1 := as_ (Kd.R_below (by (with_reducible repeat (first | apply Kd.R_alloc | apply Kd.R_drewN | apply Kd.R_drew)); exact HO_1.out) hb); replace HO_7 := as_ (Kd.R_below (by (with_reducible repeat (first | apply Kd.R_alloc | apply Kd.R_drewN | apply Kd.R_drew)); exact HO_7.out) hb); replace HO451 := as_ (Kd.R_below (by (with_reducible repeat (first | apply Kd.R_alloc | apply Kd.R_drewN | apply Kd.R_drew)); exact HO451.out) hb); replace HO454 := as_ (Kd.R_below (by (with_reducible repeat (first | apply Kd.R_alloc | apply Kd.R_drewN | apply Kd.R_drew)); exact HO454.out) hb); replace BK413 := bb BK413 hb; replace HR448 := as_ (Kd.C_below (by repeat (first | (with_reducible exact HR448.out) | (with_reducible refine Kd.C_alloc ?_ _) | (with_reducible refine Kd.C_drewN ?_ _) | (with_reducible refine Kd.C_drew ?_) | exact HR448.out)) hb); replace HB := as_ (below_step bA hb); (try clear hb); (try clear hb2); (try clear hk); (try clear hi)) | (go_at_call 21; (with_reducible refine (withylaw04_fixed.calls kj11  t458 _ A66.out).mono ?_); rintro e w73 ⟨rfl, hb⟩; replace HO_0 := as_ (Kd.R_below (by (with_reducible repeat (first | apply Kd.R_alloc | apply Kd.R_drewN | apply Kd.R_drew)); exact HO_0.out) hb); replace HO_1 := as_ (Kd.R_below (by (with_reducible repeat (first | apply Kd.R_alloc | apply Kd.R_drewN | apply Kd.R_drew)); exact HO_1.out) hb); replace HO_7 := as_ (Kd.R_below (by (with_reducible repeat (first | apply Kd.R_alloc | apply Kd.R_drewN | apply Kd.R_drew)); exact HO_7.out) hb); replace HO451 := as_ (Kd.R_below (by (with_reducible repeat (first | apply Kd.R_alloc | apply Kd.R_drewN | apply Kd.R_drew)); exact HO451.out) hb); replace HO454 := as_ (Kd.R_below (by (with_reducible repeat (first | apply Kd.R_alloc | apply Kd.R_drewN | apply Kd.R_drew)); exact HO454.out) hb); replace BK413 := bb BK413 hb; replace HR448 := as_ (Kd.C_below (by repeat (first | (with_reducible exact HR448.out) | (with_reducible refine Kd.C_alloc ?_ _) | (with_reducible refine Kd.C_drewN ?_ _) | (with_reducible refine Kd.C_drew ?_) | exact HR448.out)) hb); replace HB := as_ (below_step bA hb); (try clear hb); (try clear hb2); (try clear hk); (try clear hi)))
   go_ret
   exact ⟨by first | rfl | (simp [errW_none, errW_some] <;> rfl) | (simp only [← hji47]; first | rfl | (simp [errW_none, errW_some] <;> rfl)) | (simp [*, errW_none, errW_some] <;> rfl), by repeat (first | (with_reducible first | exact HB.out | apply below_alloc | apply pw_below_drewN | apply below_drew1 | refine below_set ?_ GE413.out) | exact HB.out)⟩
end Go.Proofs.YthaicofleloplaaDoor.P
