/- What is proved here: for functions of the Go text, a Lean function each, and that the call comes to just what it answers. Conditions: as each contract names them. Written by wip/tools/myprint.py, a driver of the print of the kit. -/
import Derived.Test.YthaicofleloplaaDoorP0
import Derived.Test.YthaicofleloplaaDoorP3
import Derived.Test.YthaicofleloplaaDoorP5
import Derived.Test.YthaicofleloplaaDoorP7
import Derived.Test.YthaicofleloplaaDoorP11
import Derived.Test.YthaicofleloplaaDoorP12
import Derived.Test.YthaicofleloplaaDoorWAbbr
namespace Go.Proofs.YthaicofleloplaaDoor.P
open Go.RowKit Go.Proofs.YthaicofleloplaaDoorW.PrintWords Go.Proofs.YthaicofleloplaaDoorW.PrintLast Go.Proofs.YthaicofleloplaaDoorW.PrintMore Go.Proofs.YthaicofleloplaaDoorW.Abbr
-- PACKED
attribute [local go_sem] max2_int min2_int max_two min_two max_three min_three max_four min_four Go.Proofs.YthaicofleloplaaDoorLaws.str_leq Go.Proofs.YthaicofleloplaaDoorLaws.str_gtr Go.Proofs.YthaicofleloplaaDoorLaws.str_geq Go.Proofs.YthaicofleloplaaDoorLaws.max2_str Go.Proofs.YthaicofleloplaaDoorLaws.min2_str   -- for this text's walks alone
set_option linter.unusedVariables false
set_option linter.unusedSimpArgs false

/-! ### withylaw04_KeyParts: function 7 -/
mutual
def withylaw04_KeyParts.j0 : Nat → List (S51) → List (S51) → Int → ByteArray → ByteArray → Bool → Option (Bool)
 | 0, _, _, _, _, _, _ => none
 | k + 1, x0, x1, x2, x7, x9, x37 => if x37 = true then ((withylaw04_fixed.f k).bind fun t379 => (some t379)) else (if (wrap64 ((x0.length : Int) + 1)) = 0 then (none) else ((key_Part.f k x7 (Int.tmod (wrap64 (x2)) (wrap64 ((x0.length : Int) + 1)))).bind fun bt380 => (if bt380.2 = 0 then (if (bt380.1.size : Int) ≥ (x7.size : Int) then (withylaw04_KeyParts.j1 k x0 x1 x9 (Int.tmod (wrap64 (x2)) (wrap64 ((x0.length : Int) + 1))) bt380.1 true) else (if 0 ≤ (bt380.1.size : Int) then (if (bt380.1.size : Int) ≤ (x7.size : Int) then (withylaw04_KeyParts.j1 k x0 x1 x9 (Int.tmod (wrap64 (x2)) (wrap64 ((x0.length : Int) + 1))) bt380.1 ((x7.extract 0 bt380.1.size).toList != bt380.1.toList)) else (none)) else (none))) else (withylaw04_KeyParts.j1 k x0 x1 x9 (Int.tmod (wrap64 (x2)) (wrap64 ((x0.length : Int) + 1))) bt380.1 true))))
def withylaw04_KeyParts.j1 : Nat → List (S51) → List (S51) → ByteArray → Int → ByteArray → Bool → Option (Bool)
 | 0, _, _, _, _, _, _ => none
 | k + 1, x0, x1, x9, x11, x12, x67 => if x67 = true then (none) else (if x12.size + 1 ≤ 9223372036854775807 then ((key_Get.f k (x12 ++ (⟨#[1]⟩ : ByteArray))).bind fun bt382 => (if (x1.length : Int) ≥ x11 then (if 0 ≤ (mn x11 (x1.length : Int)) then (if (mn x11 (x1.length : Int)) ≤ (x1.length : Int) then ((withylaw04_Ref.f k (x1.take ((mn x11 (x1.length : Int)) : Int).toNat)).bind fun t390 => (if 0 ≤ x11 then (if x11 ≤ (x0.length : Int) then ((withylaw04_Ref.f k (x0.take (x11 : Int).toNat)).bind fun t397 => ((withyref04_Same.f k t390 t397).bind fun t400 => (withylaw04_KeyParts.j2 k x0 x9 x11 x12 bt382.1 bt382.2 t400))) else (none)) else (none))) else (none)) else (none)) else (withylaw04_KeyParts.j2 k x0 x9 x11 x12 bt382.1 bt382.2 false))) else (none))
def withylaw04_KeyParts.j2 : Nat → List (S51) → ByteArray → Int → ByteArray → List (S51) → Int → Bool → Option (Bool)
 | 0, _, _, _, _, _, _, _ => none
 | k + 1, x0, x9, x11, x12, x14, x15, x16 => if (x9.size : Int) ≥ (x12.size : Int) then (if 0 ≤ (x12.size : Int) then (if (x12.size : Int) ≤ (x9.size : Int) then (withylaw04_KeyParts.j3 k x0 x11 x14 x15 x16 ((x9.extract 0 x12.size).toList == x12.toList)) else (none)) else (none)) else (withylaw04_KeyParts.j3 k x0 x11 x14 x15 x16 false)
def withylaw04_KeyParts.j3 : Nat → List (S51) → Int → List (S51) → Int → Bool → Bool → Option (Bool)
 | 0, _, _, _, _, _, _ => none
 | k + 1, x0, x11, x14, x15, x16, x17 => if x15 = 0 then ((withylaw04_Ref.f k x14).bind fun t401 => (if 0 ≤ x11 then (if x11 ≤ (x0.length : Int) then ((withylaw04_Ref.f k (x0.take (x11 : Int).toNat)).bind fun t408 => ((withyref04_Same.f k t401 t408).bind fun t411 => (if t411 = true then (if (x16 == x17) = true then ((withylaw04_fixed.f k).bind fun t412 => (some t412)) else (none)) else (none)))) else (none)) else (none))) else (none)
end
def withylaw04_KeyParts.f (k : Nat) (l0 : List (S51)) (l1 : List (S51)) (a2 : Int) : Option (Bool) := (withylaw04_Cut.f k l0).bind fun t369 => ((withylaw04_Cut.f k l1).bind fun t372 => ((key_Put.f k t369).bind fun bt375 => ((key_Put.f k t372).bind fun bt377 => (if bt375.2 = 0 then (withylaw04_KeyParts.j0 k t369 t372 a2 bt375.1 bt377.1 (bt377.2 != 0)) else (withylaw04_KeyParts.j0 k t369 t372 a2 bt375.1 bt377.1 true)))))
theorem withylaw04_KeyParts.mono_l : ∀ k, (∀ y0 y1 y2 y3 y4 y5, LeO (withylaw04_KeyParts.j0 k y0 y1 y2 y3 y4 y5) (withylaw04_KeyParts.j0 (k + 1) y0 y1 y2 y3 y4 y5)) ∧ (∀ y0 y1 y2 y3 y4 y5, LeO (withylaw04_KeyParts.j1 k y0 y1 y2 y3 y4 y5) (withylaw04_KeyParts.j1 (k + 1) y0 y1 y2 y3 y4 y5)) ∧ (∀ y0 y1 y2 y3 y4 y5 y6, LeO (withylaw04_KeyParts.j2 k y0 y1 y2 y3 y4 y5 y6) (withylaw04_KeyParts.j2 (k + 1) y0 y1 y2 y3 y4 y5 y6)) ∧ (∀ y0 y1 y2 y3 y4 y5, LeO (withylaw04_KeyParts.j3 k y0 y1 y2 y3 y4 y5) (withylaw04_KeyParts.j3 (k + 1) y0 y1 y2 y3 y4 y5))
 | 0 => ⟨fun _ _ _ _ _ _ r h => by simp [withylaw04_KeyParts.j0] at h, fun _ _ _ _ _ _ r h => by simp [withylaw04_KeyParts.j1] at h, fun _ _ _ _ _ _ _ r h => by simp [withylaw04_KeyParts.j2] at h, fun _ _ _ _ _ _ r h => by simp [withylaw04_KeyParts.j3] at h⟩
 | k + 1 => by
  obtain ⟨ih0, ih1, ih2, ih3⟩ := withylaw04_KeyParts.mono_l k
  refine ⟨?_, ?_, ?_, ?_⟩
  ·intro y0 y1 y2 y3 y4 y5
   unfold withylaw04_KeyParts.j0
   repeat' first
   | (with_reducible exact ih0 _ _ _ _ _ _)
   | (with_reducible exact ih1 _ _ _ _ _ _)
   | (with_reducible exact ih2 _ _ _ _ _ _ _)
   | (with_reducible exact ih3 _ _ _ _ _ _)
   | (with_reducible exact key_Get.mono _ _)
   | (with_reducible exact key_Part.mono _ _ _)
   | (with_reducible exact key_Put.mono _ _)
   | (with_reducible exact withylaw04_Cut.mono _ _)
   | (with_reducible exact withylaw04_Ref.mono _ _)
   | (with_reducible exact withylaw04_fixed.mono _)
   | (with_reducible exact withyref04_Same.mono _ _ _)
   | (with_reducible exact LeO.refl _)
   | (with_reducible exact LeO.none _)
   | (with_reducible refine LeO.ite ?_ ?_)
   | (with_reducible refine LeO.bind ?_ (fun _ => ?_))
   | exact ih0 _ _ _ _ _ _
   | exact ih1 _ _ _ _ _ _
   | exact ih2 _ _ _ _ _ _ _
   | exact ih3 _ _ _ _ _ _
   | exact key_Get.mono _ _
   | exact key_Part.mono _ _ _
   | exact key_Put.mono _ _
   | exact withylaw04_Cut.mono _ _
   | exact withylaw04_Ref.mono _ _
   | exact withylaw04_fixed.mono _
   | exact withyref04_Same.mono _ _ _
   | exact LeO.none _
   | refine LeO.ite ?_ ?_
   | refine LeO.bind ?_ (fun _ => ?_)
  ·intro y0 y1 y2 y3 y4 y5
   unfold withylaw04_KeyParts.j1
   repeat' first
   | (with_reducible exact ih0 _ _ _ _ _ _)
   | (with_reducible exact ih1 _ _ _ _ _ _)
   | (with_reducible exact ih2 _ _ _ _ _ _ _)
   | (with_reducible exact ih3 _ _ _ _ _ _)
   | (with_reducible exact key_Get.mono _ _)
   | (with_reducible exact key_Part.mono _ _ _)
   | (with_reducible exact key_Put.mono _ _)
   | (with_reducible exact withylaw04_Cut.mono _ _)
   | (with_reducible exact withylaw04_Ref.mono _ _)
   | (with_reducible exact withylaw04_fixed.mono _)
   | (with_reducible exact withyref04_Same.mono _ _ _)
   | (with_reducible exact LeO.refl _)
   | (with_reducible exact LeO.none _)
   | (with_reducible refine LeO.ite ?_ ?_)
   | (with_reducible refine LeO.bind ?_ (fun _ => ?_))
   | exact ih0 _ _ _ _ _ _
   | exact ih1 _ _ _ _ _ _
   | exact ih2 _ _ _ _ _ _ _
   | exact ih3 _ _ _ _ _ _
   | exact key_Get.mono _ _
   | exact key_Part.mono _ _ _
   | exact key_Put.mono _ _
   | exact withylaw04_Cut.mono _ _
   | exact withylaw04_Ref.mono _ _
   | exact withylaw04_fixed.mono _
   | exact withyref04_Same.mono _ _ _
   | exact LeO.none _
   | refine LeO.ite ?_ ?_
   | refine LeO.bind ?_ (fun _ => ?_)
  ·intro y0 y1 y2 y3 y4 y5 y6
   unfold withylaw04_KeyParts.j2
   repeat' first
   | (with_reducible exact ih0 _ _ _ _ _ _)
   | (with_reducible exact ih1 _ _ _ _ _ _)
   | (with_reducible exact ih2 _ _ _ _ _ _ _)
   | (with_reducible exact ih3 _ _ _ _ _ _)
   | (with_reducible exact key_Get.mono _ _)
   | (with_reducible exact key_Part.mono _ _ _)
   | (with_reducible exact key_Put.mono _ _)
   | (with_reducible exact withylaw04_Cut.mono _ _)
   | (with_reducible exact withylaw04_Ref.mono _ _)
   | (with_reducible exact withylaw04_fixed.mono _)
   | (with_reducible exact withyref04_Same.mono _ _ _)
   | (with_reducible exact LeO.refl _)
   | (with_reducible exact LeO.none _)
   | (with_reducible refine LeO.ite ?_ ?_)
   | (with_reducible refine LeO.bind ?_ (fun _ => ?_))
   | exact ih0 _ _ _ _ _ _
   | exact ih1 _ _ _ _ _ _
   | exact ih2 _ _ _ _ _ _ _
   | exact ih3 _ _ _ _ _ _
   | exact key_Get.mono _ _
   | exact key_Part.mono _ _ _
   | exact key_Put.mono _ _
   | exact withylaw04_Cut.mono _ _
   | exact withylaw04_Ref.mono _ _
   | exact withylaw04_fixed.mono _
   | exact withyref04_Same.mono _ _ _
   | exact LeO.none _
   | refine LeO.ite ?_ ?_
   | refine LeO.bind ?_ (fun _ => ?_)
  ·intro y0 y1 y2 y3 y4 y5
   unfold withylaw04_KeyParts.j3
   repeat' first
   | (with_reducible exact ih0 _ _ _ _ _ _)
   | (with_reducible exact ih1 _ _ _ _ _ _)
   | (with_reducible exact ih2 _ _ _ _ _ _ _)
   | (with_reducible exact ih3 _ _ _ _ _ _)
   | (with_reducible exact key_Get.mono _ _)
   | (with_reducible exact key_Part.mono _ _ _)
   | (with_reducible exact key_Put.mono _ _)
   | (with_reducible exact withylaw04_Cut.mono _ _)
   | (with_reducible exact withylaw04_Ref.mono _ _)
   | (with_reducible exact withylaw04_fixed.mono _)
   | (with_reducible exact withyref04_Same.mono _ _ _)
   | (with_reducible exact LeO.refl _)
   | (with_reducible exact LeO.none _)
   | (with_reducible refine LeO.ite ?_ ?_)
   | (with_reducible refine LeO.bind ?_ (fun _ => ?_))
   | exact ih0 _ _ _ _ _ _
   | exact ih1 _ _ _ _ _ _
   | exact ih2 _ _ _ _ _ _ _
   | exact ih3 _ _ _ _ _ _
   | exact key_Get.mono _ _
   | exact key_Part.mono _ _ _
   | exact key_Put.mono _ _
   | exact withylaw04_Cut.mono _ _
   | exact withylaw04_Ref.mono _ _
   | exact withylaw04_fixed.mono _
   | exact withyref04_Same.mono _ _ _
   | exact LeO.none _
   | refine LeO.ite ?_ ?_
   | refine LeO.bind ?_ (fun _ => ?_)
theorem withylaw04_KeyParts.mono : ∀ a0 a1 a2 k, LeO (withylaw04_KeyParts.f k a0 a1 a2) (withylaw04_KeyParts.f (k + 1) a0 a1 a2) := by
 intro a0 a1 a2 k
 obtain ⟨ih0, ih1, ih2, ih3⟩ := withylaw04_KeyParts.mono_l k
 unfold withylaw04_KeyParts.f
 repeat' first
   | (with_reducible exact ih0 _ _ _ _ _ _)
   | (with_reducible exact ih1 _ _ _ _ _ _)
   | (with_reducible exact ih2 _ _ _ _ _ _ _)
   | (with_reducible exact ih3 _ _ _ _ _ _)
   | (with_reducible exact key_Get.mono _ _)
   | (with_reducible exact key_Part.mono _ _ _)
   | (with_reducible exact key_Put.mono _ _)
   | (with_reducible exact withylaw04_Cut.mono _ _)
   | (with_reducible exact withylaw04_Ref.mono _ _)
   | (with_reducible exact withylaw04_fixed.mono _)
   | (with_reducible exact withyref04_Same.mono _ _ _)
   | (with_reducible exact LeO.refl _)
   | (with_reducible exact LeO.none _)
   | (with_reducible refine LeO.ite ?_ ?_)
   | (with_reducible refine LeO.bind ?_ (fun _ => ?_))
   | exact ih0 _ _ _ _ _ _
   | exact ih1 _ _ _ _ _ _
   | exact ih2 _ _ _ _ _ _ _
   | exact ih3 _ _ _ _ _ _
   | exact key_Get.mono _ _
   | exact key_Part.mono _ _ _
   | exact key_Put.mono _ _
   | exact withylaw04_Cut.mono _ _
   | exact withylaw04_Ref.mono _ _
   | exact withylaw04_fixed.mono _
   | exact withyref04_Same.mono _ _ _
   | exact LeO.none _
   | refine LeO.ite ?_ ?_
   | refine LeO.bind ?_ (fun _ => ?_)
def withylaw04_KeyParts.T12 : Bool × List (List Nat × List Nat) := (true, [([], []), ([0], [0]), ([], []), ([1, 2], [1, 2]), ([3], [3]), ([4], [4]), ([4], [4]), ([4], [4]), ([7, 4], [4, 7]), ([6, 8, 4], [4, 6, 8]), ([5, 9, 4], [4, 5, 9]), ([10, 4, 4], [4, 10]), ([4], [4]), ([4], [4]), ([12, 13, 4], [4, 12, 13]), ([14, 11, 4], [4, 14]), ([11, 15, 15, 4], [4, 11, 15]), ([4, 16], [4, 16]), ([17, 16, 0, 1, 2, 3, 4, 5, 6, 7, 8, 9, 10, 11, 12, 13, 14, 15, 16, 17], [17])])
def withylaw04_KeyParts.B12 : List Nat := [0, 1, 0, 7, 15, 31, 31, 31, 159, 479, 1023, 2047, 31, 31, 12319, 32767, 65535, 131071, 262143]
theorem withylaw04_KeyParts.tab12 : rtab .any (opsOf Tryd.f7 12) = withylaw04_KeyParts.T12 := by kernel_rfl
theorem withylaw04_KeyParts.bits12 : waitsOk withylaw04_KeyParts.T12.2 withylaw04_KeyParts.B12 = true := by kernel_rfl
def withylaw04_KeyParts.T14 : Bool × List (List Nat × List Nat) := (true, [([], []), ([0], [0]), ([1], [1]), ([2], [2]), ([3, 2, 2], [2, 3]), ([2], [2]), ([2], [2]), ([5, 6, 2], [2, 5, 6]), ([7, 4, 2], [2, 7]), ([4, 8, 8, 2], [2, 4, 8]), ([2, 9], [2, 9]), ([10, 9], [10]), ([11], [11]), ([11], [11]), ([12, 13, 11], [11, 12, 13]), ([11, 14], [11, 14]), ([15, 11], [15]), ([16, 16], [16]), ([16, 17], [16, 17]), ([18, 17, 0, 1, 2, 3, 4, 5, 6, 7, 8, 9, 10, 11, 12, 13, 14, 15, 16, 17, 18], [18])])
def withylaw04_KeyParts.B14 : List Nat := [0, 1, 3, 7, 15, 7, 7, 103, 255, 511, 1023, 2047, 4095, 4095, 16383, 32767, 65535, 131071, 262143, 524287]
theorem withylaw04_KeyParts.tab14 : rtab .any (opsOf Tryd.f7 14) = withylaw04_KeyParts.T14 := by kernel_rfl
theorem withylaw04_KeyParts.bits14 : waitsOk withylaw04_KeyParts.T14.2 withylaw04_KeyParts.B14 = true := by kernel_rfl
set_option maxHeartbeats 8000000 in
set_option maxRecDepth 100000 in
theorem withylaw04_KeyParts.calls (k : Nat) (A0 : Option Addr) (c0 : Nat) (l0 : List (S51)) (A1 : Option Addr) (c1 : Nat) (l1 : List (S51)) (a2 : Int) (r : Bool) (w : World) (hr0 : Kd.C k51 w A0 l0.length l0) (hc0 : l0.length ≤ c0) (hr1 : Kd.C k51 w A1 l1.length l1) (hc1 : l1.length ≤ c1) (h : withylaw04_KeyParts.f k l0 l1 a2 = some r) :
  Calls Tryd.prog 7 #[.slice A0 l0.length c0, .slice A1 l1.length c1, .int .u8 a2] w fun e w' => e = .returned (.bool r) ∧ Below w.heap.size w w' := by
 have HR0 := Aside0.mk hr0
 have HC0 := Aside0.mk hc0
 clear hr0 hc0
 have HR1 := Aside0.mk hr1
 have HC1 := Aside0.mk hc1
 clear hr1 hc1
 have HB := as_ (Below.refl w.heap.size w)
 have H : ((withylaw04_Cut.f k l0).bind fun t369 => ((withylaw04_Cut.f k l1).bind fun t372 => ((key_Put.f k t369).bind fun bt375 => ((key_Put.f k t372).bind fun bt377 => (if bt375.2 = 0 then (withylaw04_KeyParts.j0 k t369 t372 a2 bt375.1 bt377.1 (bt377.2 != 0)) else (withylaw04_KeyParts.j0 k t369 t372 a2 bt375.1 bt377.1 true)))))) = some r := h
 clear h
 replace H := bM H
 obtain ⟨t369, A40, H⟩ := H
 replace H : ((withylaw04_Cut.f k l1).bind fun t372 => ((key_Put.f k t369).bind fun bt375 => ((key_Put.f k t372).bind fun bt377 => (if bt375.2 = 0 then (withylaw04_KeyParts.j0 k t369 t372 a2 bt375.1 bt377.1 (bt377.2 != 0)) else (withylaw04_KeyParts.j0 k t369 t372 a2 bt375.1 bt377.1 true))))) = some r := H
 have A4 := Aside0.mk A40
 clear A40
 replace H := bM H
 obtain ⟨t372, A50, H⟩ := H
 replace H : ((key_Put.f k t369).bind fun bt375 => ((key_Put.f k t372).bind fun bt377 => (if bt375.2 = 0 then (withylaw04_KeyParts.j0 k t369 t372 a2 bt375.1 bt377.1 (bt377.2 != 0)) else (withylaw04_KeyParts.j0 k t369 t372 a2 bt375.1 bt377.1 true)))) = some r := H
 have A5 := Aside0.mk A50
 clear A50
 replace H := bM H
 obtain ⟨⟨t375, t376⟩, A60, H⟩ := H
 replace H : ((key_Put.f k t372).bind fun bt377 => (if t376 = 0 then (withylaw04_KeyParts.j0 k t369 t372 a2 t375 bt377.1 (bt377.2 != 0)) else (withylaw04_KeyParts.j0 k t369 t372 a2 t375 bt377.1 true))) = some r := H
 have A6 := Aside0.mk A60
 clear A60
 replace H := bM H
 obtain ⟨⟨t377, t378⟩, A70, H⟩ := H
 replace H : (if t376 = 0 then (withylaw04_KeyParts.j0 k t369 t372 a2 t375 t377 (t378 != 0)) else (withylaw04_KeyParts.j0 k t369 t372 a2 t375 t377 true)) = some r := H
 have A7 := Aside0.mk A70
 clear A70
 have HC8 := Aside0.mk H
 clear H
 go_enter Tryd.func7, Tryd.ntmps7
 go_upto_region 5 with (first | ((with_reducible refine gate_callee (f := 9) rfl ?_); refine goesL_ (some 19) rfl rfl Tryd.func9 (by kernel_rfl) rfl #[.slice A0 l0.length c0] rfl aO ?_; (with_reducible refine (withylaw04_Cut.calls k _ _ l0 t369 _ ?side1 ?side2 A4.out).mono ?_); (case side1 => repeat (first | exact HR0.out | (with_reducible refine Kd.C_alloc ?_ _) | (with_reducible refine Kd.C_drewN ?_ _) | (with_reducible refine Kd.C_drew ?_))); (case side2 => exact HC0.out); rintro e w9 ⟨v370, rfl, ho0, hb⟩; refine ⟨_, rfl, ?_⟩; have HO371 := as_ (Kd.R_lower ho0 (below_size bA)); replace HB := as_ (below_step bA hb); (try clear hb); (try clear hb2); (try clear hk); (try clear hi); (try clear ho0)) | ((with_reducible refine gate_callee (f := 9) rfl ?_); refine goesL_ (some 21) rfl rfl Tryd.func9 (by kernel_rfl) rfl #[.slice A1 l1.length c1] rfl aO ?_; (with_reducible refine (withylaw04_Cut.calls k _ _ l1 t372 _ ?side1 ?side2 A5.out).mono ?_); (case side1 => repeat (first | exact (Kd.C_below HR1.out HB.out) | (with_reducible refine Kd.C_alloc ?_ _) | (with_reducible refine Kd.C_drewN ?_ _) | (with_reducible refine Kd.C_drew ?_))); (case side2 => exact HC1.out); rintro e w10 ⟨v373, rfl, ho0, hb⟩; refine ⟨_, rfl, ?_⟩; have HO374 := as_ (Kd.R_lower (Kd.R_new' ho0 (Kd.R_lt (by (with_reducible repeat (first | apply Kd.R_alloc | apply Kd.R_drewN | apply Kd.R_drew)); exact HO371.out))) (below_size bA)); replace HO371 := as_ (Kd.R_elder' (by (with_reducible repeat (first | apply Kd.R_alloc | apply Kd.R_drewN | apply Kd.R_drew)); exact HO371.out) (Kd.R_base ho0) hb); replace HB := as_ (below_step bA hb); (try clear hb); (try clear hb2); (try clear hk); (try clear hi); (try clear ho0); obtain ⟨Ao11, co11, eo11⟩ := Kd.R_slice HO371.out; subst eo11) | ((with_reducible refine gate_callee (f := 10) rfl ?_); refine goesL_ (some 24) rfl rfl Tryd.func10 (by kernel_rfl) rfl #[.slice Ao11 t369.length co11] rfl aO ?_; (with_reducible refine (key_Put.calls k _ _ t369 t375 t376 _ ?side1 ?side2 A6.out).mono ?_); (case side1 => repeat (first | exact (Kd.R_reads' HO371.out).2.2 | (with_reducible refine Kd.C_alloc ?_ _) | (with_reducible refine Kd.C_drewN ?_ _) | (with_reducible refine Kd.C_drew ?_))); (case side2 => exact (Kd.R_reads' HO371.out).2.1); rintro e w12 ⟨rfl, hb⟩; clear A6; refine ⟨_, rfl, ?_⟩; replace HO371 := as_ (Kd.R_below (by (with_reducible repeat (first | apply Kd.R_alloc | apply Kd.R_drewN | apply Kd.R_drew)); exact HO371.out) hb); replace HO374 := as_ (Kd.R_below (by (with_reducible repeat (first | apply Kd.R_alloc | apply Kd.R_drewN | apply Kd.R_drew)); exact HO374.out) hb); replace HB := as_ (below_step bA hb); (try clear hb); (try clear hb2); (try clear hk); (try clear hi); obtain ⟨Ao13, co13, eo13⟩ := Kd.R_slice HO374.out; subst eo13) | ((with_reducible refine gate_callee (f := 10) rfl ?_); refine goesL_ (some 29) rfl rfl Tryd.func10 (by kernel_rfl) rfl #[.slice Ao13 t372.length co13] rfl aO ?_; (with_reducible refine (key_Put.calls k _ _ t372 t377 t378 _ ?side1 ?side2 A7.out).mono ?_); (case side1 => repeat (first | exact (Kd.R_reads' HO374.out).2.2 | (with_reducible refine Kd.C_alloc ?_ _) | (with_reducible refine Kd.C_drewN ?_ _) | (with_reducible refine Kd.C_drew ?_))); (case side2 => exact (Kd.R_reads' HO374.out).2.1); rintro e w14 ⟨rfl, hb⟩; clear A7; refine ⟨_, rfl, ?_⟩; replace HO371 := as_ (Kd.R_below (by (with_reducible repeat (first | apply Kd.R_alloc | apply Kd.R_drewN | apply Kd.R_drew)); exact HO371.out) hb); replace HO374 := as_ (Kd.R_below (by (with_reducible repeat (first | apply Kd.R_alloc | apply Kd.R_drewN | apply Kd.R_drew)); exact HO374.out) hb); replace HB := as_ (below_step bA hb); (try clear hb); (try clear hb2); (try clear hk); (try clear hi)))
 (try simp only [Act.put, List.setIfInBounds_toArray, List.set_cons_zero, List.set_cons_succ])
 go_cut [37] (fun v37 wc => ∃ (kq : Nat) (x37_7 : Bool), v37 = .bool x37_7 ∧ Aside0 (withylaw04_KeyParts.j0 kq t369 t372 a2 t375 t377 x37_7 = some r) ∧ Aside0 (kq ≤ k) ∧ Aside0 (Kd.R k51 51 wc w.heap.size (fun k_ => some k_ ≠ ((.slice Ao13 t372.length co13) : Value).ownBlock) (.slice Ao11 t369.length co11) t369) ∧ Aside0 (Kd.R k51 51 wc w.heap.size (fun k_ => some k_ ≠ ((.slice Ao11 t369.length co11) : Value).ownBlock) (.slice Ao13 t372.length co13) t372) ∧ Aside0 (Below w.heap.size w wc))
 case first =>
  have H := HC8.out
  clear HC8
  by_cases c15 : t376 = 0
  rotate_left
  ·rw [if_neg c15] at H
   have c15b0 : (t376 == 0) = false := beq_eq_false_iff_ne.mpr c15
   have c15b1 : (t376 != 0) = true := bne_iff_ne.mpr c15
   (first | rw [c15b0] | (simp only [i64_w, i32_w]; rw [c15b0]) | rw [c15b1] | skip)
   have H' := Aside0.mk H
   clear H
   go_wp2
   go_meet
   case rel => exact ⟨_, (true), (by first | rfl | (simp; done) | (simp [*]; done)), H', ⟨by first | omega | exact Nat.le_refl _⟩, ⟨by (with_reducible repeat (first | apply Kd.R_alloc | apply Kd.R_drewN | apply Kd.R_drew)); exact Kd.R_mono HO371.out (fun _ hk => hk.2)⟩, ⟨by (with_reducible repeat (first | apply Kd.R_alloc | apply Kd.R_drewN | apply Kd.R_drew)); exact Kd.R_mono HO374.out (fun _ hk => hk.2)⟩, ⟨by repeat (first | (with_reducible first | exact HB.out | apply below_alloc | apply pw_below_drewN | apply below_drew1) | exact HB.out)⟩⟩
  rw [if_pos c15] at H
  have c15b0 : (t376 == 0) = true := beq_iff_eq.mpr c15
  have c15b1 : (t376 != 0) = false := bne_eq_false_iff_eq.mpr c15
  clear c15
  (first | rw [c15b0] | (simp only [i64_w, i32_w]; rw [c15b0]) | rw [c15b1] | skip)
  have H' := Aside0.mk H
  clear H
  go_wp2
  go_meet
  case rel => exact ⟨_, ((t378 != 0)), (by first | rfl | (simp; done) | (simp [*]; done)), H', ⟨by first | omega | exact Nat.le_refl _⟩, ⟨by (with_reducible repeat (first | apply Kd.R_alloc | apply Kd.R_drewN | apply Kd.R_drew)); exact Kd.R_mono HO371.out (fun _ hk => hk.2)⟩, ⟨by (with_reducible repeat (first | apply Kd.R_alloc | apply Kd.R_drewN | apply Kd.R_drew)); exact Kd.R_mono HO374.out (fun _ hk => hk.2)⟩, ⟨by repeat (first | (with_reducible first | exact HB.out | apply below_alloc | apply pw_below_drewN | apply below_drew1) | exact HB.out)⟩⟩
 case rest =>
  clear HC8
  try clear c1
  try clear p2
  try clear c7
  try clear c9
  try clear c10
  try clear c15
  try clear c15b0
  try clear c15b1
  obtain ⟨kq, x37_7, rfl, HA, HJ7, HO_0, HO_1, HB⟩ := hcut
  cases kq with
  | zero => exact absurd HA.out (by simp [withylaw04_KeyParts.j0])
  | succ kj7 =>
   have H := HA.out
   clear HA
   simp only [withylaw04_KeyParts.j0] at H
   by_cases c16 : x37_7 = true
   ·subst c16
    have H1 : ((withylaw04_fixed.f kj7).bind fun t379 => (some t379)) = some r := by rw [if_pos rfl] at H; exact H
    clear H
    have H := H1
    clear H1
    replace H := bM H
    obtain ⟨t379, A170, H⟩ := H
    replace H : (some t379) = some r := H
    have A17 := Aside0.mk A170
    clear A170
    obtain rfl := Option.some.inj H
    go_wp2_with (first | ((with_reducible refine gate_callee (f := 21) rfl ?_); refine goesL_ (some 38) rfl rfl Tryd.func21 (by kernel_rfl) rfl #[] rfl aO ?_; (with_reducible refine (withylaw04_fixed.calls kj7  t379 _ A17.out).mono ?_); rintro e w18 ⟨rfl, hb⟩; refine ⟨_, rfl, ?_⟩; replace HO_0 := as_ (Kd.R_below (by (with_reducible repeat (first | apply Kd.R_alloc | apply Kd.R_drewN | apply Kd.R_drew)); exact HO_0.out) hb); replace HO_1 := as_ (Kd.R_below (by (with_reducible repeat (first | apply Kd.R_alloc | apply Kd.R_drewN | apply Kd.R_drew)); exact HO_1.out) hb); replace HB := as_ (below_step bA hb); (try clear hb); (try clear hb2); (try clear hk); (try clear hi)))
    go_ret
    exact ⟨eW, by repeat (first | (with_reducible first | exact HB.out | apply below_alloc | apply pw_below_drewN | apply below_drew1) | exact HB.out)⟩
   replace c16 := Bool.eq_false_iff.mpr c16
   subst c16
   have H1 : (if (wrap64 ((t369.length : Int) + 1)) = 0 then (none) else ((key_Part.f kj7 t375 (Int.tmod (wrap64 (a2)) (wrap64 ((t369.length : Int) + 1)))).bind fun bt380 => (if bt380.2 = 0 then (if (bt380.1.size : Int) ≥ (t375.size : Int) then (withylaw04_KeyParts.j1 kj7 t369 t372 t377 (Int.tmod (wrap64 (a2)) (wrap64 ((t369.length : Int) + 1))) bt380.1 true) else (if 0 ≤ (bt380.1.size : Int) then (if (bt380.1.size : Int) ≤ (t375.size : Int) then (withylaw04_KeyParts.j1 kj7 t369 t372 t377 (Int.tmod (wrap64 (a2)) (wrap64 ((t369.length : Int) + 1))) bt380.1 ((t375.extract 0 bt380.1.size).toList != bt380.1.toList)) else (none)) else (none))) else (withylaw04_KeyParts.j1 kj7 t369 t372 t377 (Int.tmod (wrap64 (a2)) (wrap64 ((t369.length : Int) + 1))) bt380.1 true)))) = some r := by rw [if_neg (show ¬ (false = true) by decide)] at H; exact H
   clear H
   have H := H1
   clear H1
   by_cases c19 : (wrap64 ((t369.length : Int) + 1)) = 0
   ·rw [if_pos c19] at H
    exact absurd H (by simp)
   rw [if_neg c19] at H
   have c19b0 : ((wrap64 ((t369.length : Int) + 1)) == 0) = false := beq_eq_false_iff_ne.mpr c19
   have c19b1 : ((wrap64 ((t369.length : Int) + 1)) != 0) = true := bne_iff_ne.mpr c19
   replace H := bM H
   obtain ⟨⟨t380, t381⟩, A200, H⟩ := H
   replace H : (if t381 = 0 then (if (t380.size : Int) ≥ (t375.size : Int) then (withylaw04_KeyParts.j1 kj7 t369 t372 t377 (Int.tmod (wrap64 (a2)) (wrap64 ((t369.length : Int) + 1))) t380 true) else (if 0 ≤ (t380.size : Int) then (if (t380.size : Int) ≤ (t375.size : Int) then (withylaw04_KeyParts.j1 kj7 t369 t372 t377 (Int.tmod (wrap64 (a2)) (wrap64 ((t369.length : Int) + 1))) t380 ((t375.extract 0 t380.size).toList != t380.toList)) else (none)) else (none))) else (withylaw04_KeyParts.j1 kj7 t369 t372 t377 (Int.tmod (wrap64 (a2)) (wrap64 ((t369.length : Int) + 1))) t380 true)) = some r := H
   have A20 := Aside0.mk A200
   clear A200
   have HC21 := Aside0.mk H
   clear H
   go_upto_region 9 with (first | ((with_reducible refine gate_callee (f := 15) rfl ?_); refine goesL_ (some 48) rfl rfl Tryd.func15 (by kernel_rfl) rfl #[.string t375, .int .i64 (Int.tmod (wrap64 (a2)) (wrap64 ((t369.length : Int) + 1)))] rfl aO ?_; (first | (with_reducible refine (key_Part.calls kj7 t375 (Int.tmod (wrap64 (a2)) (wrap64 ((t369.length : Int) + 1))) t380 t381 _ A20.out).mono ?_) | (with_reducible refine (key_Part.calls kj7 t375 (Int.tmod (a2) ((t369.length : Int) + 1)) t380 t381 _ (by have e_ := A20.out; rwa [(by unfold wrap64; omega : wrap64 ((t369.length : Int) + 1) = ((t369.length : Int) + 1)), (by unfold wrap64; omega : wrap64 (a2) = (a2))] at e_)).mono ?_)); rintro e w22 ⟨rfl, hb⟩; refine ⟨_, rfl, ?_⟩; replace HO_0 := as_ (Kd.R_below (by (with_reducible repeat (first | apply Kd.R_alloc | apply Kd.R_drewN | apply Kd.R_drew)); exact HO_0.out) hb); replace HO_1 := as_ (Kd.R_below (by (with_reducible repeat (first | apply Kd.R_alloc | apply Kd.R_drewN | apply Kd.R_drew)); exact HO_1.out) hb); replace HB := as_ (below_step bA hb); (try clear hb); (try clear hb2); (try clear hk); (try clear hi)))
   (try simp only [Act.put, List.setIfInBounds_toArray, List.set_cons_zero, List.set_cons_succ])
   go_cut [67] (fun v67 wc => ∃ (kq : Nat) (x67_20 : Bool), v67 = .bool x67_20 ∧ Aside0 (withylaw04_KeyParts.j1 kq t369 t372 t377 (Int.tmod (wrap64 (a2)) (wrap64 ((t369.length : Int) + 1))) t380 x67_20 = some r) ∧ Aside0 (kq ≤ kj7) ∧ Aside0 (Kd.R k51 51 wc w.heap.size (fun k_ => some k_ ≠ ((.slice Ao13 t372.length co13) : Value).ownBlock) (.slice Ao11 t369.length co11) t369) ∧ Aside0 (Kd.R k51 51 wc w.heap.size (fun k_ => some k_ ≠ ((.slice Ao11 t369.length co11) : Value).ownBlock) (.slice Ao13 t372.length co13) t372) ∧ Aside0 (Below w.heap.size w wc))
   case first =>
    have H := HC21.out
    clear HC21
    by_cases c23 : t381 = 0
    rotate_left
    ·rw [if_neg c23] at H
     have c23b0 : (t381 == 0) = false := beq_eq_false_iff_ne.mpr c23
     have c23b1 : (t381 != 0) = true := bne_iff_ne.mpr c23
     (first | rw [c23b0] | (simp only [i64_w, i32_w]; rw [c23b0]) | rw [c23b1] | skip)
     have H' := Aside0.mk H
     clear H
     go_wp2
     go_meet
     case rel => exact ⟨_, (true), (by first | rfl | (simp; done) | (simp [*]; done)), H', ⟨by have := HJ7.out; first | omega | exact Nat.le_refl _⟩, ⟨by (with_reducible repeat (first | apply Kd.R_alloc | apply Kd.R_drewN | apply Kd.R_drew)); exact HO_0.out⟩, ⟨by (with_reducible repeat (first | apply Kd.R_alloc | apply Kd.R_drewN | apply Kd.R_drew)); exact HO_1.out⟩, ⟨by repeat (first | (with_reducible first | exact HB.out | apply below_alloc | apply pw_below_drewN | apply below_drew1) | exact HB.out)⟩⟩
    rw [if_pos c23] at H
    have c23b0 : (t381 == 0) = true := beq_iff_eq.mpr c23
    have c23b1 : (t381 != 0) = false := bne_eq_false_iff_eq.mpr c23
    clear c23
    (first | rw [c23b0] | (simp only [i64_w, i32_w]; rw [c23b0]) | rw [c23b1] | skip)
    by_cases c24 : (t380.size : Int) ≥ (t375.size : Int)
    ·rw [if_pos c24] at H
     have c24b0 : decide ((t375.size : Int) ≤ (t380.size : Int)) = true := decide_eq_true c24
     have c24b1 : decide (t375.size ≤ t380.size) = true := decide_eq_true (Int.ofNat_le.mp c24)
     clear c24
     have H' := Aside0.mk H
     clear H
     go_wp2
     go_meet
     case rel => exact ⟨_, (true), (by first | rfl | (simp; done) | (simp [*]; done)), H', ⟨by have := HJ7.out; first | omega | exact Nat.le_refl _⟩, ⟨by (with_reducible repeat (first | apply Kd.R_alloc | apply Kd.R_drewN | apply Kd.R_drew)); exact HO_0.out⟩, ⟨by (with_reducible repeat (first | apply Kd.R_alloc | apply Kd.R_drewN | apply Kd.R_drew)); exact HO_1.out⟩, ⟨by repeat (first | (with_reducible first | exact HB.out | apply below_alloc | apply pw_below_drewN | apply below_drew1) | exact HB.out)⟩⟩
    rw [if_neg c24] at H
    have c24b0 : decide ((t375.size : Int) ≤ (t380.size : Int)) = false := decide_eq_false c24
    have c24b1 : decide (t375.size ≤ t380.size) = false := decide_eq_false (fun h => c24 (Int.ofNat_le.mpr h))
    clear c24
    by_cases c25 : 0 ≤ (t380.size : Int)
    rotate_left
    ·rw [if_neg c25] at H
     exact absurd H (by simp)
    rw [if_pos c25] at H
    have c25b0 := eq_true c25
    have c25b1 : decide (0 ≤ (t380.size : Int)) = true := decide_eq_true c25
    clear c25
    by_cases c26 : (t380.size : Int) ≤ (t375.size : Int)
    rotate_left
    ·rw [if_neg c26] at H
     exact absurd H (by simp)
    rw [if_pos c26] at H
    have c26b0 := eq_true c26
    have c26b1 : decide ((t380.size : Int) ≤ (t375.size : Int)) = true := decide_eq_true c26
    clear c26
    obtain ⟨js27, hjs27⟩ : ∃ j_ : ByteArray, (t375.extract 0 t380.size) = j_ := ⟨_, rfl⟩
    replace H : (withylaw04_KeyParts.j1 kj7 t369 t372 t377 (Int.tmod (wrap64 (a2)) (wrap64 ((t369.length : Int) + 1))) t380 ((js27).toList != t380.toList)) = some r := by first | (rw [hjs27] at H; exact H) | (simp only [hjs27] at H ⊢; exact H)
    have H' := Aside0.mk H
    clear H
    go_wp2
    go_meet
    case rel => exact ⟨_, (((js27).toList != t380.toList)), (by first | rfl | (simp; done) | (simp only [← hjs27] <;> (first | rfl | simp)) | (simp [*]; done)), H', ⟨by have := HJ7.out; first | omega | exact Nat.le_refl _⟩, ⟨by (with_reducible repeat (first | apply Kd.R_alloc | apply Kd.R_drewN | apply Kd.R_drew)); exact HO_0.out⟩, ⟨by (with_reducible repeat (first | apply Kd.R_alloc | apply Kd.R_drewN | apply Kd.R_drew)); exact HO_1.out⟩, ⟨by repeat (first | (with_reducible first | exact HB.out | apply below_alloc | apply pw_below_drewN | apply below_drew1) | exact HB.out)⟩⟩
   case rest =>
    clear HC21
    try clear c1
    try clear c2
    try clear p2
    try clear p6
    try clear c7
    try clear c9
    try clear c10
    try clear c15
    try clear c15b0
    try clear c15b1
    try clear c16
    try clear c19
    try clear c19b0
    try clear c19b1
    try clear c21
    try clear c23
    try clear c23b0
    try clear c23b1
    try clear c24
    try clear c24b0
    try clear c24b1
    try clear c25
    try clear c25b0
    try clear c25b1
    try clear c26
    try clear c26b0
    try clear c26b1
    try clear p2
    obtain ⟨kq, x67_20, rfl, HA, HJ20, HO_0, HO_1, HB⟩ := hcut
    cases kq with
    | zero => exact absurd HA.out (by simp [withylaw04_KeyParts.j1])
    | succ kj20 =>
     have H := HA.out
     clear HA
     simp only [withylaw04_KeyParts.j1] at H
     by_cases c28 : x67_20 = true
     ·subst c28
      have H1 : (none) = some r := by rw [if_pos rfl] at H; exact H
      clear H
      have H := H1
      clear H1
      exact absurd H (by simp)
     replace c28 := Bool.eq_false_iff.mpr c28
     subst c28
     have H1 : (if t380.size + 1 ≤ 9223372036854775807 then ((key_Get.f kj20 (t380 ++ (⟨#[1]⟩ : ByteArray))).bind fun bt382 => (if (t372.length : Int) ≥ (Int.tmod (wrap64 (a2)) (wrap64 ((t369.length : Int) + 1))) then (if 0 ≤ (mn (Int.tmod (wrap64 (a2)) (wrap64 ((t369.length : Int) + 1))) (t372.length : Int)) then (if (mn (Int.tmod (wrap64 (a2)) (wrap64 ((t369.length : Int) + 1))) (t372.length : Int)) ≤ (t372.length : Int) then ((withylaw04_Ref.f kj20 (t372.take ((mn (Int.tmod (wrap64 (a2)) (wrap64 ((t369.length : Int) + 1))) (t372.length : Int)) : Int).toNat)).bind fun t390 => (if 0 ≤ (Int.tmod (wrap64 (a2)) (wrap64 ((t369.length : Int) + 1))) then (if (Int.tmod (wrap64 (a2)) (wrap64 ((t369.length : Int) + 1))) ≤ (t369.length : Int) then ((withylaw04_Ref.f kj20 (t369.take ((Int.tmod (wrap64 (a2)) (wrap64 ((t369.length : Int) + 1))) : Int).toNat)).bind fun t397 => ((withyref04_Same.f kj20 t390 t397).bind fun t400 => (withylaw04_KeyParts.j2 kj20 t369 t377 (Int.tmod (wrap64 (a2)) (wrap64 ((t369.length : Int) + 1))) t380 bt382.1 bt382.2 t400))) else (none)) else (none))) else (none)) else (none)) else (withylaw04_KeyParts.j2 kj20 t369 t377 (Int.tmod (wrap64 (a2)) (wrap64 ((t369.length : Int) + 1))) t380 bt382.1 bt382.2 false))) else (none)) = some r := by rw [if_neg (show ¬ (false = true) by decide)] at H; exact H
     clear H
     have H := H1
     clear H1
     by_cases c29 : t380.size + 1 ≤ 9223372036854775807
     rotate_left
     ·rw [if_neg c29] at H
      exact absurd H (by simp)
 
     rw [if_pos c29] at H
     have c29b0 := eq_true c29
     have c29b1 : decide (t380.size + 1 ≤ 9223372036854775807) = true := decide_eq_true c29
     try have c29b2 : (9223372036854775807 < t380.size + 1) = False := eq_false (Nat.not_lt.2 c29)
     obtain ⟨js30, hjs30⟩ : ∃ j_ : ByteArray, (t380 ++ (⟨#[1]⟩ : ByteArray)) = j_ := ⟨_, rfl⟩
     replace H : ((key_Get.f kj20 (js30)).bind fun bt382 => (if (t372.length : Int) ≥ (Int.tmod (wrap64 (a2)) (wrap64 ((t369.length : Int) + 1))) then (if 0 ≤ (mn (Int.tmod (wrap64 (a2)) (wrap64 ((t369.length : Int) + 1))) (t372.length : Int)) then (if (mn (Int.tmod (wrap64 (a2)) (wrap64 ((t369.length : Int) + 1))) (t372.length : Int)) ≤ (t372.length : Int) then ((withylaw04_Ref.f kj20 (t372.take ((mn (Int.tmod (wrap64 (a2)) (wrap64 ((t369.length : Int) + 1))) (t372.length : Int)) : Int).toNat)).bind fun t390 => (if 0 ≤ (Int.tmod (wrap64 (a2)) (wrap64 ((t369.length : Int) + 1))) then (if (Int.tmod (wrap64 (a2)) (wrap64 ((t369.length : Int) + 1))) ≤ (t369.length : Int) then ((withylaw04_Ref.f kj20 (t369.take ((Int.tmod (wrap64 (a2)) (wrap64 ((t369.length : Int) + 1))) : Int).toNat)).bind fun t397 => ((withyref04_Same.f kj20 t390 t397).bind fun t400 => (withylaw04_KeyParts.j2 kj20 t369 t377 (Int.tmod (wrap64 (a2)) (wrap64 ((t369.length : Int) + 1))) t380 bt382.1 bt382.2 t400))) else (none)) else (none))) else (none)) else (none)) else (withylaw04_KeyParts.j2 kj20 t369 t377 (Int.tmod (wrap64 (a2)) (wrap64 ((t369.length : Int) + 1))) t380 bt382.1 bt382.2 false))) = some r := by first | (rw [hjs30] at H; exact H) | (simp only [hjs30] at H ⊢; exact H)
     replace H := bM H
     obtain ⟨⟨t382, t383⟩, A310, H⟩ := H
     replace H : (if (t372.length : Int) ≥ (Int.tmod (wrap64 (a2)) (wrap64 ((t369.length : Int) + 1))) then (if 0 ≤ (mn (Int.tmod (wrap64 (a2)) (wrap64 ((t369.length : Int) + 1))) (t372.length : Int)) then (if (mn (Int.tmod (wrap64 (a2)) (wrap64 ((t369.length : Int) + 1))) (t372.length : Int)) ≤ (t372.length : Int) then ((withylaw04_Ref.f kj20 (t372.take ((mn (Int.tmod (wrap64 (a2)) (wrap64 ((t369.length : Int) + 1))) (t372.length : Int)) : Int).toNat)).bind fun t390 => (if 0 ≤ (Int.tmod (wrap64 (a2)) (wrap64 ((t369.length : Int) + 1))) then (if (Int.tmod (wrap64 (a2)) (wrap64 ((t369.length : Int) + 1))) ≤ (t369.length : Int) then ((withylaw04_Ref.f kj20 (t369.take ((Int.tmod (wrap64 (a2)) (wrap64 ((t369.length : Int) + 1))) : Int).toNat)).bind fun t397 => ((withyref04_Same.f kj20 t390 t397).bind fun t400 => (withylaw04_KeyParts.j2 kj20 t369 t377 (Int.tmod (wrap64 (a2)) (wrap64 ((t369.length : Int) + 1))) t380 t382 t383 t400))) else (none)) else (none))) else (none)) else (none)) else (withylaw04_KeyParts.j2 kj20 t369 t377 (Int.tmod (wrap64 (a2)) (wrap64 ((t369.length : Int) + 1))) t380 t382 t383 false)) = some r := H
     have A31 := Aside0.mk A310
     clear A310
     have HC32 := Aside0.mk H
     clear H
     go_upto_region 12 with (first | ((with_reducible refine gate_callee (f := 13) rfl ?_); refine goesL_ (some 71) rfl rfl Tryd.func13 (by kernel_rfl) rfl #[.string js30] rfl aO ?_; (with_reducible refine (key_Get.calls kj20 js30 t382 t383 _ A31.out).mono ?_); rintro e w33 ⟨v384, rfl, ho0, hb⟩; refine ⟨_, rfl, ?_⟩; have HO385 := as_ (Kd.R_lower (Kd.R_new' (Kd.R_new' ho0 (Kd.R_lt (by (with_reducible repeat (first | apply Kd.R_alloc | apply Kd.R_drewN | apply Kd.R_drew)); exact HO_0.out))) (Kd.R_lt (by (with_reducible repeat (first | apply Kd.R_alloc | apply Kd.R_drewN | apply Kd.R_drew)); exact HO_1.out))) (below_size bA)); replace HO_0 := as_ (Kd.R_elder' (by (with_reducible repeat (first | apply Kd.R_alloc | apply Kd.R_drewN | apply Kd.R_drew)); exact HO_0.out) (Kd.R_base ho0) hb); replace HO_1 := as_ (Kd.R_elder' (by (with_reducible repeat (first | apply Kd.R_alloc | apply Kd.R_drewN | apply Kd.R_drew)); exact HO_1.out) (Kd.R_base ho0) hb); replace HB := as_ (below_step bA hb); (try clear hb); (try clear hb2); (try clear hk); (try clear hi); (try clear ho0)))
     (try simp only [Act.put, List.setIfInBounds_toArray, List.set_cons_zero, List.set_cons_succ])
     go_cut [16] (fun v16 wc => ∃ (kq : Nat) (x16_31 : Bool), v16 = .bool x16_31 ∧ Aside0 (withylaw04_KeyParts.j2 kq t369 t377 (Int.tmod (wrap64 (a2)) (wrap64 ((t369.length : Int) + 1))) t380 t382 t383 x16_31 = some r) ∧ Aside0 (kq ≤ kj20) ∧ Aside0 (Kd.R k51 51 wc w.heap.size (fun k_ => some k_ ≠ (v384 : Value).ownBlock) (.slice Ao11 t369.length co11) t369) ∧ Aside0 (Kd.R k51 51 wc w.heap.size (fun k_ => some k_ ≠ ((.slice Ao11 t369.length co11) : Value).ownBlock) v384 t382) ∧ Aside0 (Below w.heap.size w wc))
     case first =>
      have H := HC32.out
      clear HC32
      by_cases c34 : (t372.length : Int) ≥ (Int.tmod (wrap64 (a2)) (wrap64 ((t369.length : Int) + 1)))
      rotate_left
      ·rw [if_neg c34] at H
       have c34b0 : decide ((Int.tmod (wrap64 (a2)) (wrap64 ((t369.length : Int) + 1))) ≤ (t372.length : Int)) = false := decide_eq_false c34
       clear c34
       (first | rw [c34b0] | (simp only [i64_w, i32_w]; rw [c34b0]) | rw [c34b1] | skip)
       have H' := Aside0.mk H
       clear H
       try go_wp2
       replace HO_0 := as_ (Kd.R_drew HO_0.out)
       replace HO_1 := as_ (Kd.R_drew HO_1.out)
       replace HO385 := as_ (Kd.R_drew HO385.out)
       replace HB := as_ (below_drew1 HB.out)
       refine start_ (n := 19) (S := fun w' => True) (ds := []) #[ff, ff, ff, ff, ff, ff, ff, ff, ff, ff, ff, ff, ff, ff, ff, ff, ff, ff, ff] (by kernel_rfl) rfl rfl trivial (fun hHeld => ?_); refine with_tabW withylaw04_KeyParts.tab12 withylaw04_KeyParts.bits12 (fun HT_ HW_ => ?_)
       generalize w33.drew = w51 at HO_0 HO_1 HO385 HB hHeld ⊢
       refine pure_ (i := 0) (N := some 74) (v := ?_) (a' := ?_) #[tt, ff, ff, ff, ff, ff, ff, ff, ff, ff, ff, ff, ff, ff, ff, ff, ff, ff, ff] rfl rfl (any_of HT_.out (by kernel_rfl)) (fun _ _ _ h => h) (Or.inl ⟨by rfl, ?_⟩) ?_ ?_
       rotate_left
       ·intro w'
        go_simp
        with_reducible rfl
       rotate_left
       ·exact aP
       refine pure_ (i := 1) (N := some 75) (v := ?_) (a' := ?_) #[tt, tt, ff, ff, ff, ff, ff, ff, ff, ff, ff, ff, ff, ff, ff, ff, ff, ff, ff] rfl rfl (any_of HT_.out (by kernel_rfl)) (fun _ _ _ h => h) (Or.inl ⟨by rfl, ?_⟩) ?_ ?_
       rotate_left
       ·intro w'
        go_simp
        with_reducible rfl
       rotate_left
       ·exact aP
       refine pure_ (i := 2) (N := some 76) (v := ?_) (a' := ?_) #[tt, tt, tt, ff, ff, ff, ff, ff, ff, ff, ff, ff, ff, ff, ff, ff, ff, ff, ff] rfl rfl (any_of HT_.out (by kernel_rfl)) (fun _ _ _ h => h) (Or.inl ⟨by rfl, ?_⟩) ?_ ?_
       rotate_left
       ·intro w'
        go_simp
        with_reducible rfl
       rotate_left
       ·exact aP
       refine pure_ (i := 3) (N := some 77) (v := ?_) (a' := ?_) #[tt, tt, tt, tt, ff, ff, ff, ff, ff, ff, ff, ff, ff, ff, ff, ff, ff, ff, ff] rfl rfl (any_of HT_.out (by kernel_rfl)) (fun _ _ _ h => h) (Or.inl ⟨by rfl, ?_⟩) ?_ ?_
       rotate_left
       ·intro w'
        go_simp
        with_reducible rfl
       rotate_left
       ·exact aP
       refine pure_ (i := 4) (N := some 78) (v := ?_) (a' := ?_) #[tt, tt, tt, tt, tt, ff, ff, ff, ff, ff, ff, ff, ff, ff, ff, ff, ff, ff, ff] rfl rfl (any_of HT_.out (by kernel_rfl)) (fun _ _ _ h => h) (Or.inl ⟨by rfl, ?_⟩) ?_ ?_
       rotate_left
       ·intro w'
        go_simp
        with_reducible rfl
       rotate_left
       ·exact aP
       refine pure_ (i := 5) (N := some 79) (v := undef) (a' := ?_) #[tt, tt, tt, tt, tt, tt, ff, ff, ff, ff, ff, ff, ff, ff, ff, ff, ff, ff, ff] rfl rfl (any_of HT_.out (by kernel_rfl)) (fun _ _ _ h => h) (Or.inr ⟨by rfl, rfl⟩) ?_ ?_
       rotate_left
       ·exact aP
       refine pure_ (i := 6) (N := some 80) (v := undef) (a' := ?_) #[tt, tt, tt, tt, tt, tt, tt, ff, ff, ff, ff, ff, ff, ff, ff, ff, ff, ff, ff] rfl rfl (any_of HT_.out (by kernel_rfl)) (fun _ _ _ h => h) (Or.inr ⟨by rfl, rfl⟩) ?_ ?_
       rotate_left
       ·exact aP
       refine pure_ (i := 7) (N := some 81) (v := undef) (a' := ?_) #[tt, tt, tt, tt, tt, tt, tt, tt, ff, ff, ff, ff, ff, ff, ff, ff, ff, ff, ff] rfl rfl (any_of HT_.out (by kernel_rfl)) (fun _ _ _ h => h) (Or.inr ⟨by rfl, rfl⟩) ?_ ?_
       rotate_left
       ·exact aP
       refine pure_ (i := 8) (N := some 82) (v := undef) (a' := ?_) #[tt, tt, tt, tt, tt, tt, tt, tt, tt, ff, ff, ff, ff, ff, ff, ff, ff, ff, ff] rfl rfl (any_of HT_.out (by kernel_rfl)) (fun _ _ _ h => h) (Or.inr ⟨by rfl, rfl⟩) ?_ ?_
       rotate_left
       ·exact aP
       refine pure_ (i := 9) (N := some 83) (v := undef) (a' := ?_) #[tt, tt, tt, tt, tt, tt, tt, tt, tt, tt, ff, ff, ff, ff, ff, ff, ff, ff, ff] rfl rfl (any_of HT_.out (by kernel_rfl)) (fun _ _ _ h => h) (Or.inr ⟨by rfl, rfl⟩) ?_ ?_
       rotate_left
       ·exact aP
       refine pure_ (i := 10) (N := some 84) (v := undef) (a' := ?_) #[tt, tt, tt, tt, tt, tt, tt, tt, tt, tt, tt, ff, ff, ff, ff, ff, ff, ff, ff] rfl rfl (any_of HT_.out (by kernel_rfl)) (fun _ _ _ h => h) (Or.inr ⟨by rfl, rfl⟩) ?_ ?_
       rotate_left
       ·exact aP
       refine pure_ (i := 11) (N := some 85) (v := undef) (a' := ?_) #[tt, tt, tt, tt, tt, tt, tt, tt, tt, tt, tt, tt, ff, ff, ff, ff, ff, ff, ff] rfl rfl (any_of HT_.out (by kernel_rfl)) (fun _ _ _ h => h) (Or.inr ⟨by rfl, rfl⟩) ?_ ?_
       rotate_left
       ·exact aP
       refine pure_ (i := 12) (N := some 86) (v := undef) (a' := ?_) #[tt, tt, tt, tt, tt, tt, tt, tt, tt, tt, tt, tt, tt, ff, ff, ff, ff, ff, ff] rfl rfl (any_of HT_.out (by kernel_rfl)) (fun _ _ _ h => h) (Or.inr ⟨by rfl, rfl⟩) ?_ ?_
       rotate_left
       ·exact aP
       refine pure_ (i := 13) (N := some 87) (v := undef) (a' := ?_) #[tt, tt, tt, tt, tt, tt, tt, tt, tt, tt, tt, tt, tt, tt, ff, ff, ff, ff, ff] rfl rfl (any_of HT_.out (by kernel_rfl)) (fun _ _ _ h => h) (Or.inr ⟨by rfl, rfl⟩) ?_ ?_
       rotate_left
       ·exact aP
       refine pure_ (i := 14) (N := some 88) (v := undef) (a' := ?_) #[tt, tt, tt, tt, tt, tt, tt, tt, tt, tt, tt, tt, tt, tt, tt, ff, ff, ff, ff] rfl rfl (any_of HT_.out (by kernel_rfl)) (fun _ _ _ h => h) (Or.inr ⟨by rfl, rfl⟩) ?_ ?_
       rotate_left
       ·exact aP
       refine pure_ (i := 15) (N := some 89) (v := undef) (a' := ?_) #[tt, tt, tt, tt, tt, tt, tt, tt, tt, tt, tt, tt, tt, tt, tt, tt, ff, ff, ff] rfl rfl (any_of HT_.out (by kernel_rfl)) (fun _ _ _ h => h) (Or.inr ⟨by rfl, rfl⟩) ?_ ?_
       rotate_left
       ·exact aP
       refine pure_ (i := 16) (N := some 90) (v := undef) (a' := ?_) #[tt, tt, tt, tt, tt, tt, tt, tt, tt, tt, tt, tt, tt, tt, tt, tt, tt, ff, ff] rfl rfl (any_of HT_.out (by kernel_rfl)) (fun _ _ _ h => h) (Or.inr ⟨by rfl, rfl⟩) ?_ ?_
       rotate_left
       ·exact aP
       refine pure_ (i := 17) (N := some 91) (v := ?_) (a' := ?_) #[tt, tt, tt, tt, tt, tt, tt, tt, tt, tt, tt, tt, tt, tt, tt, tt, tt, tt, ff] rfl rfl (any_of HT_.out (by kernel_rfl)) (fun _ _ _ h => h) (Or.inl ⟨by rfl, ?_⟩) ?_ ?_
       rotate_left
       ·intro w'
        go_simp
        with_reducible rfl
       rotate_left
       ·exact aP
       refine pure_ (i := 18) (N := some 16) (v := ?_) (a' := ?_) #[tt, tt, tt, tt, tt, tt, tt, tt, tt, tt, tt, tt, tt, tt, tt, tt, tt, tt, tt] rfl rfl (any_of HT_.out (by kernel_rfl)) (fun _ _ _ h => h) (Or.inl ⟨by rfl, ?_⟩) ?_ ?_
       rotate_left
       ·intro w'
        go_simp
        with_reducible rfl
       rotate_left
       ·exact aP
       refine done_ (done_of HT_.out (by kernel_rfl)) ?_
       try go_wp2
       go_meet
       case rel => exact ⟨_, (false), (by first | rfl | (simp; done) | (simp [*]; done)), (by first | exact H' | (rw [hji39]; exact H') | (rw [hji35]; exact H')), ⟨by have := HJ7.out; have := HJ20.out; first | omega | exact Nat.le_refl _⟩, ⟨by (with_reducible repeat (first | apply Kd.R_alloc | apply Kd.R_drewN | apply Kd.R_drew)); exact Kd.R_mono HO_0.out (fun _ hk => hk.2)⟩, ⟨by (with_reducible repeat (first | apply Kd.R_alloc | apply Kd.R_drewN | apply Kd.R_drew)); exact Kd.R_mono HO385.out (fun _ hk => hk.1.2)⟩, ⟨by repeat (first | (with_reducible first | exact HB.out | apply below_alloc | apply pw_below_drewN | apply below_drew1) | exact HB.out)⟩⟩
      rw [if_pos c34] at H
      have c34b0 : decide ((Int.tmod (wrap64 (a2)) (wrap64 ((t369.length : Int) + 1))) ≤ (t372.length : Int)) = true := decide_eq_true c34
      clear c34
      (first | rw [c34b0] | (simp only [i64_w, i32_w]; rw [c34b0]) | rw [c34b1] | skip)
      obtain ⟨ji35, hji35⟩ : ∃ j_ : Int, (mn (Int.tmod (wrap64 (a2)) (wrap64 ((t369.length : Int) + 1))) (t372.length : Int)) = j_ := ⟨_, rfl⟩
      replace H : (if 0 ≤ (ji35) then (if (ji35) ≤ (t372.length : Int) then ((withylaw04_Ref.f kj20 (t372.take ((ji35) : Int).toNat)).bind fun t390 => (if 0 ≤ (Int.tmod (wrap64 (a2)) (wrap64 ((t369.length : Int) + 1))) then (if (Int.tmod (wrap64 (a2)) (wrap64 ((t369.length : Int) + 1))) ≤ (t369.length : Int) then ((withylaw04_Ref.f kj20 (t369.take ((Int.tmod (wrap64 (a2)) (wrap64 ((t369.length : Int) + 1))) : Int).toNat)).bind fun t397 => ((withyref04_Same.f kj20 t390 t397).bind fun t400 => (withylaw04_KeyParts.j2 kj20 t369 t377 (Int.tmod (wrap64 (a2)) (wrap64 ((t369.length : Int) + 1))) t380 t382 t383 t400))) else (none)) else (none))) else (none)) else (none)) = some r := by first | (rw [hji35] at H; exact H) | (simp only [hji35] at H ⊢; exact H)
      have hji35_ : (if (t372.length : Int) < (Int.tmod (wrap64 (a2)) (wrap64 ((t369.length : Int) + 1))) then (t372.length : Int) else (Int.tmod (wrap64 (a2)) (wrap64 ((t369.length : Int) + 1)))) = ji35 := hji35
      by_cases c36 : 0 ≤ (ji35)
      rotate_left
      ·rw [if_neg c36] at H
       exact absurd H (by simp)
      rw [if_pos c36] at H
      have c36b0 := eq_true c36
      have c36b1 : decide (0 ≤ (ji35)) = true := decide_eq_true c36
      clear c36
      by_cases c37 : (ji35) ≤ (t372.length : Int)
      rotate_left
      ·rw [if_neg c37] at H
       exact absurd H (by simp)
      rw [if_pos c37] at H
      have c37b0 := eq_true c37
      have c37b1 : decide ((ji35) ≤ (t372.length : Int)) = true := decide_eq_true c37
      clear c37
      obtain ⟨y386, hy386⟩ : ∃ y_ : List (S51), y_ = (t372.take ((ji35) : Int).toNat) := ⟨_, rfl⟩
      replace H : ((withylaw04_Ref.f kj20 y386).bind fun t390 => (if 0 ≤ (Int.tmod (wrap64 (a2)) (wrap64 ((t369.length : Int) + 1))) then (if (Int.tmod (wrap64 (a2)) (wrap64 ((t369.length : Int) + 1))) ≤ (t369.length : Int) then ((withylaw04_Ref.f kj20 (t369.take ((Int.tmod (wrap64 (a2)) (wrap64 ((t369.length : Int) + 1))) : Int).toNat)).bind fun t397 => ((withyref04_Same.f kj20 t390 t397).bind fun t400 => (withylaw04_KeyParts.j2 kj20 t369 t377 (Int.tmod (wrap64 (a2)) (wrap64 ((t369.length : Int) + 1))) t380 t382 t383 t400))) else (none)) else (none))) = some r := by first | (rw [hy386]; with_reducible exact H) | (have H2_ := (Option.bind_some _ _).symm.trans H; rw [hy386]; with_reducible exact H2_) | (have H2_ := (Option.bind_some _ _).symm.trans H; with_reducible exact H2_) | with_reducible exact H | (rw [hy386]; exact H) | exact H
      have Ny386 := Aside0.mk hy386
      clear hy386
      replace H := bM H
      obtain ⟨t390, A380, H⟩ := H
      replace H : (if 0 ≤ (Int.tmod (wrap64 (a2)) (wrap64 ((t369.length : Int) + 1))) then (if (Int.tmod (wrap64 (a2)) (wrap64 ((t369.length : Int) + 1))) ≤ (t369.length : Int) then ((withylaw04_Ref.f kj20 (t369.take ((Int.tmod (wrap64 (a2)) (wrap64 ((t369.length : Int) + 1))) : Int).toNat)).bind fun t397 => ((withyref04_Same.f kj20 t390 t397).bind fun t400 => (withylaw04_KeyParts.j2 kj20 t369 t377 (Int.tmod (wrap64 (a2)) (wrap64 ((t369.length : Int) + 1))) t380 t382 t383 t400))) else (none)) else (none)) = some r := H
      have A38 := Aside0.mk A380
      clear A380
      obtain ⟨ji39, hji39⟩ : ∃ j_ : Int, (Int.tmod (wrap64 (a2)) (wrap64 ((t369.length : Int) + 1))) = j_ := ⟨_, rfl⟩
      replace H : (if 0 ≤ (ji39) then (if (ji39) ≤ (t369.length : Int) then ((withylaw04_Ref.f kj20 (t369.take ((ji39) : Int).toNat)).bind fun t397 => ((withyref04_Same.f kj20 t390 t397).bind fun t400 => (withylaw04_KeyParts.j2 kj20 t369 t377 (ji39) t380 t382 t383 t400))) else (none)) else (none)) = some r := by first | (rw [hji39] at H; exact H) | (simp only [hji39] at H ⊢; exact H)
      (try rw [hji39] at hji35_)
      (try rw [hji39] at c34b0)
      (try rw [hji39] at A38)
      by_cases c40 : 0 ≤ (ji39)
      rotate_left
      ·rw [if_neg c40] at H
       exact absurd H (by simp)
      rw [if_pos c40] at H
      have c40b0 := eq_true c40
      have c40b1 : decide (0 ≤ (ji39)) = true := decide_eq_true c40
      clear c40
      by_cases c41 : (ji39) ≤ (t369.length : Int)
      rotate_left
      ·rw [if_neg c41] at H
       exact absurd H (by simp)
      rw [if_pos c41] at H
      have c41b0 := eq_true c41
      have c41b1 : decide ((ji39) ≤ (t369.length : Int)) = true := decide_eq_true c41
      clear c41
      obtain ⟨y393, hy393⟩ : ∃ y_ : List (S51), y_ = (t369.take ((ji39) : Int).toNat) := ⟨_, rfl⟩
      replace H : ((withylaw04_Ref.f kj20 y393).bind fun t397 => ((withyref04_Same.f kj20 t390 t397).bind fun t400 => (withylaw04_KeyParts.j2 kj20 t369 t377 (ji39) t380 t382 t383 t400))) = some r := by first | (rw [hy393]; with_reducible exact H) | (have H2_ := (Option.bind_some _ _).symm.trans H; rw [hy393]; with_reducible exact H2_) | (have H2_ := (Option.bind_some _ _).symm.trans H; with_reducible exact H2_) | with_reducible exact H | (rw [hy393]; exact H) | exact H
      have Ny393 := Aside0.mk hy393
      clear hy393
      replace H := bM H
      obtain ⟨t397, A420, H⟩ := H
      replace H : ((withyref04_Same.f kj20 t390 t397).bind fun t400 => (withylaw04_KeyParts.j2 kj20 t369 t377 (ji39) t380 t382 t383 t400)) = some r := H
      have A42 := Aside0.mk A420
      clear A420
      replace H := bM H
      obtain ⟨t400, A430, H⟩ := H
      replace H : (withylaw04_KeyParts.j2 kj20 t369 t377 (ji39) t380 t382 t383 t400) = some r := H
      have A43 := Aside0.mk A430
      clear A430
      have H' := Aside0.mk H
      clear H
      try go_wp2
      replace HO_0 := as_ (Kd.R_drew HO_0.out)
      replace HO_1 := as_ (Kd.R_drew HO_1.out)
      replace HO385 := as_ (Kd.R_drew HO385.out)
      replace HB := as_ (below_drew1 HB.out)
      have q45 : ((ji35) : Int) ≤ ((t372.length : Int) : Int) := of_decide_eq_true aM
      obtain ⟨i045, hi045, _, hsz45, _⟩ := info_parts info51
      have hroom45 : t372.length ≤ co13 := (Kd.R_reads' HO_1.out).2.1
      have hC45 : Kd.C k51 _ Ao13 t372.length t372 := (Kd.R_reads' HO_1.out).2.2
      have hcut45 := cut_to (P := Tryd.prog) 22 51 .i64 Tryd.underlying22 hi045 Ao13 t372.length co13 (ji35) (of_decide_eq_true aM) q45 hroom45
      have hr45 := Kd.C_take (m := ((ji35) : Int).toNat) hC45 (by omega)
      have hy45 : y386.length = ((ji35) : Int).toNat := (by rw [Ny386.out, List.length_take]; omega)
      rw [← Ny386.out] at hr45
      rw [← hy45] at hcut45
      have HR389 := Aside0.mk hr45
      have HC389 := as_ (show y386.length ≤ co13 from by omega)
      clear hr45 hC45 hroom45 hi045 hsz45
      have KY45 := Aside0.mk hy45
      clear hy45
      have KL45 := as_ (show ((ji35) : Int).toNat ≤ t372.length from by omega)
      replace q45 := eq_true q45
      have q46 : ((ji39) : Int) ≤ ((t369.length : Int) : Int) := of_decide_eq_true aM
      obtain ⟨i046, hi046, _, hsz46, _⟩ := info_parts info51
      have hroom46 : t369.length ≤ co11 := (Kd.R_reads' HO_0.out).2.1
      have hC46 : Kd.C k51 _ Ao11 t369.length t369 := (Kd.R_reads' HO_0.out).2.2
      have hcut46 := cut_to (P := Tryd.prog) 22 51 .i64 Tryd.underlying22 hi046 Ao11 t369.length co11 (ji39) (of_decide_eq_true aM) q46 hroom46
      have hr46 := Kd.C_take (m := ((ji39) : Int).toNat) hC46 (by omega)
      have hy46 : y393.length = ((ji39) : Int).toNat := (by rw [Ny393.out, List.length_take]; omega)
      rw [← Ny393.out] at hr46
      rw [← hy46] at hcut46
      have HR396 := Aside0.mk hr46
      have HC396 := as_ (show y393.length ≤ co11 from by omega)
      clear hr46 hC46 hroom46 hi046 hsz46
      have KY46 := Aside0.mk hy46
      clear hy46
      have KL46 := as_ (show ((ji39) : Int).toNat ≤ t369.length from by omega)
      replace q46 := eq_true q46
      refine start_ (n := 19) (S := fun w' => True) (ds := []) #[ff, ff, ff, ff, ff, ff, ff, ff, ff, ff, ff, ff, ff, ff, ff, ff, ff, ff, ff] (by kernel_rfl) rfl rfl trivial (fun hHeld => ?_); refine with_tabW withylaw04_KeyParts.tab12 withylaw04_KeyParts.bits12 (fun HT_ HW_ => ?_)
      generalize w33.drew = w44 at HO_0 HO_1 HO385 HB HR389 HR396 hHeld ⊢
      refine pure_ (i := 0) (N := some 74) (v := ?_) (a' := ?_) #[tt, ff, ff, ff, ff, ff, ff, ff, ff, ff, ff, ff, ff, ff, ff, ff, ff, ff, ff] rfl rfl (any_of HT_.out (by kernel_rfl)) (fun _ _ _ h => h) (Or.inl ⟨by rfl, ?_⟩) ?_ ?_
      rotate_left
      ·intro w'
       go_simp
       with_reducible rfl
      rotate_left
      ·exact aP
      refine pure_ (i := 1) (N := some 75) (v := ?_) (a' := ?_) #[tt, tt, ff, ff, ff, ff, ff, ff, ff, ff, ff, ff, ff, ff, ff, ff, ff, ff, ff] rfl rfl (any_of HT_.out (by kernel_rfl)) (fun _ _ _ h => h) (Or.inl ⟨by rfl, ?_⟩) ?_ ?_
      rotate_left
      ·intro w'
       go_simp
       with_reducible rfl
      rotate_left
      ·exact aP
      refine pure_ (i := 2) (N := some 76) (v := ?_) (a' := ?_) #[tt, tt, tt, ff, ff, ff, ff, ff, ff, ff, ff, ff, ff, ff, ff, ff, ff, ff, ff] rfl rfl (any_of HT_.out (by kernel_rfl)) (fun _ _ _ h => h) (Or.inl ⟨by rfl, ?_⟩) ?_ ?_
      rotate_left
      ·intro w'
       go_simp
       with_reducible rfl
      rotate_left
      ·exact aP
      refine pure_ (i := 3) (N := some 77) (v := ?_) (a' := ?_) #[tt, tt, tt, tt, ff, ff, ff, ff, ff, ff, ff, ff, ff, ff, ff, ff, ff, ff, ff] rfl rfl (any_of HT_.out (by kernel_rfl)) (fun _ _ _ h => h) (Or.inl ⟨by rfl, ?_⟩) ?_ ?_
      rotate_left
      ·intro w'
       go_simp
       with_reducible rfl
      rotate_left
      ·exact aP
      refine pure_ (i := 4) (N := some 78) (v := ?_) (a' := ?_) #[tt, tt, tt, tt, tt, ff, ff, ff, ff, ff, ff, ff, ff, ff, ff, ff, ff, ff, ff] rfl rfl (any_of HT_.out (by kernel_rfl)) (fun _ _ _ h => h) (Or.inl ⟨by rfl, ?_⟩) ?_ ?_
      rotate_left
      ·intro w'
       go_simp
       with_reducible rfl
      rotate_left
      ·exact aP
      refine pure_ (i := 5) (N := some 79) (v := ?_) (a' := ?_) #[tt, tt, tt, tt, tt, tt, ff, ff, ff, ff, ff, ff, ff, ff, ff, ff, ff, ff, ff] rfl rfl (any_of HT_.out (by kernel_rfl)) (fun _ _ _ h => h) (Or.inl ⟨by rfl, ?_⟩) ?_ ?_
      rotate_left
      ·intro w'
       go_simp
       with_reducible rfl
      rotate_left
      ·exact aP
      refine pure_ (i := 6) (N := some 80) (v := ?_) (a' := ?_) #[tt, tt, tt, tt, tt, tt, tt, ff, ff, ff, ff, ff, ff, ff, ff, ff, ff, ff, ff] rfl rfl (any_of HT_.out (by kernel_rfl)) (fun _ _ _ h => h) (Or.inl ⟨by rfl, ?_⟩) ?_ ?_
      rotate_left
      ·intro w'
       go_simp
       with_reducible rfl
      rotate_left
      ·exact aP
      refine pure_ (i := 7) (N := some 81) (v := ?_) (a' := ?_) #[tt, tt, tt, tt, tt, tt, tt, tt, ff, ff, ff, ff, ff, ff, ff, ff, ff, ff, ff] rfl rfl (any_of HT_.out (by kernel_rfl)) (fun _ _ _ h => h) (Or.inl ⟨by rfl, ?_⟩) ?_ ?_
      rotate_left
      ·intro w'
       go_simp
       with_reducible rfl
      rotate_left
      ·exact aP
      refine pure_ (i := 8) (N := some 82) (v := ?_) (a' := ?_) #[tt, tt, tt, tt, tt, tt, tt, tt, tt, ff, ff, ff, ff, ff, ff, ff, ff, ff, ff] rfl rfl (any_of HT_.out (by kernel_rfl)) (fun _ _ _ h => h) (Or.inl ⟨by rfl, ?_⟩) ?_ ?_
      rotate_left
      ·intro w'
       go_simp
       with_reducible rfl
      rotate_left
      ·exact aP
      refine pure_ (i := 9) (N := some 83) (v := ?_) (a' := ?_) #[tt, tt, tt, tt, tt, tt, tt, tt, tt, tt, ff, ff, ff, ff, ff, ff, ff, ff, ff] rfl rfl (any_of HT_.out (by kernel_rfl)) (fun _ _ _ h => h) (Or.inl ⟨by rfl, ?_⟩) ?_ ?_
      rotate_left
      ·intro w'
       go_simp
       with_reducible rfl
      rotate_left
      ·exact aP
      refine pure_ (i := 10) (N := some 84) (v := ?_) (a' := ?_) #[tt, tt, tt, tt, tt, tt, tt, tt, tt, tt, tt, ff, ff, ff, ff, ff, ff, ff, ff] rfl rfl (any_of HT_.out (by kernel_rfl)) (fun _ _ _ h => h) (Or.inl ⟨by rfl, ?_⟩) ?_ ?_
      rotate_left
      ·intro w'
       go_simp
       with_reducible rfl
      rotate_left
      ·exact aP
      refine pure_ (i := 12) (N := some 86) (v := ?_) (a' := ?_) #[tt, tt, tt, tt, tt, tt, tt, tt, tt, tt, tt, ff, tt, ff, ff, ff, ff, ff, ff] rfl rfl (any_of HT_.out (by kernel_rfl)) (fun _ _ _ h => h) (Or.inl ⟨by rfl, ?_⟩) ?_ ?_
      rotate_left
      ·intro w'
       go_simp
       with_reducible rfl
      rotate_left
      ·exact aP
      refine pure_ (i := 13) (N := some 87) (v := ?_) (a' := ?_) #[tt, tt, tt, tt, tt, tt, tt, tt, tt, tt, tt, ff, tt, tt, ff, ff, ff, ff, ff] rfl rfl (any_of HT_.out (by kernel_rfl)) (fun _ _ _ h => h) (Or.inl ⟨by rfl, ?_⟩) ?_ ?_
      rotate_left
      ·intro w'
       go_simp
       with_reducible rfl
      rotate_left
      ·exact aP
      refine pure_ (i := 14) (N := some 88) (v := ?_) (a' := ?_) #[tt, tt, tt, tt, tt, tt, tt, tt, tt, tt, tt, ff, tt, tt, tt, ff, ff, ff, ff] rfl rfl (any_of HT_.out (by kernel_rfl)) (fun _ _ _ h => h) (Or.inl ⟨by rfl, ?_⟩) ?_ ?_
      rotate_left
      ·intro w'
       go_simp
       with_reducible rfl
      rotate_left
      ·exact aP
      refine one_ (i := 11) (N := some 85) #[tt, tt, tt, tt, tt, tt, tt, tt, tt, tt, tt, tt, tt, tt, tt, ff, ff, ff, ff] rfl rfl (one_of HT_.out (by kernel_rfl)) (by decide) (fun K hK => ?_)
      refine goes_ Tryd.func12 (by kernel_rfl) rfl #[.slice Ao13 y386.length co13] (by rfl) rfl rfl aO ?_
      with_reducible refine (withylaw04_Ref.calls kj20 _ _ y386 t390 _ ?side1 ?side2 A38.out).mono ?_
      (case side1 => repeat (first | exact (by repeat (first | (with_reducible exact HR389.out) | (with_reducible refine Kd.C_alloc ?_ _) | (with_reducible refine Kd.C_drewN ?_ _) | (with_reducible refine Kd.C_drew ?_) | exact HR389.out)) | (with_reducible refine Kd.C_alloc ?_ _) | (with_reducible refine Kd.C_drewN ?_ _) | (with_reducible refine Kd.C_drew ?_)))
      (case side2 => exact HC389.out)
      rintro e w47 ⟨v391, rfl, ho0, hb⟩
      refine ⟨_, rfl, ?_⟩
      have HO392 := as_ (Kd.R_lower ho0 (below_size bA))
      replace HO_0 := as_ (Kd.R_below (by (with_reducible repeat (first | apply Kd.R_alloc | apply Kd.R_drewN | apply Kd.R_drew)); exact HO_0.out) hb)
      replace HO_1 := as_ (Kd.R_below (by (with_reducible repeat (first | apply Kd.R_alloc | apply Kd.R_drewN | apply Kd.R_drew)); exact HO_1.out) hb)
      replace HO385 := as_ (Kd.R_below (by (with_reducible repeat (first | apply Kd.R_alloc | apply Kd.R_drewN | apply Kd.R_drew)); exact HO385.out) hb)
      replace HR389 := as_ (Kd.C_below (by repeat (first | (with_reducible exact HR389.out) | (with_reducible refine Kd.C_alloc ?_ _) | (with_reducible refine Kd.C_drewN ?_ _) | (with_reducible refine Kd.C_drew ?_) | exact HR389.out)) hb)
      replace HR396 := as_ (Kd.C_below (by repeat (first | (with_reducible exact HR396.out) | (with_reducible refine Kd.C_alloc ?_ _) | (with_reducible refine Kd.C_drewN ?_ _) | (with_reducible refine Kd.C_drew ?_) | exact HR396.out)) hb)
      replace HB := as_ (below_step bA hb)
      (try clear hb)
      (try clear hb2)
      (try clear hk)
      (try clear hi)
      (try clear ho0)
      refine hK.out _ _ trivial (fun hHeld => ?_)
      clear hK K
      refine norm_ (a' := ?_) ?_ ?_
      rotate_left
      ·show Act.put _ (some 85) _ = _
       simp only [Act.put, List.setIfInBounds_toArray, List.set_cons_zero, List.set_cons_succ, i64_w, i32_w]
       rfl
      refine one_ (i := 15) (N := some 89) #[tt, tt, tt, tt, tt, tt, tt, tt, tt, tt, tt, tt, tt, tt, tt, tt, ff, ff, ff] rfl rfl (one_of HT_.out (by kernel_rfl)) (by decide) (fun K hK => ?_)
      refine goes_ Tryd.func12 (by kernel_rfl) rfl #[.slice Ao11 y393.length co11] (by rfl) rfl rfl aO ?_
      with_reducible refine (withylaw04_Ref.calls kj20 _ _ y393 t397 _ ?side1 ?side2 A42.out).mono ?_
      (case side1 => repeat (first | exact (by repeat (first | (with_reducible exact HR396.out) | (with_reducible refine Kd.C_alloc ?_ _) | (with_reducible refine Kd.C_drewN ?_ _) | (with_reducible refine Kd.C_drew ?_) | exact HR396.out)) | (with_reducible refine Kd.C_alloc ?_ _) | (with_reducible refine Kd.C_drewN ?_ _) | (with_reducible refine Kd.C_drew ?_)))
      (case side2 => exact HC396.out)
      rintro e w48 ⟨v398, rfl, ho0, hb⟩
      refine ⟨_, rfl, ?_⟩
      have HO399 := as_ (Kd.R_lower (Kd.R_new' ho0 (Kd.R_lt (by (with_reducible repeat (first | apply Kd.R_alloc | apply Kd.R_drewN | apply Kd.R_drew)); exact HO392.out))) (below_size bA))
      replace HO_0 := as_ (Kd.R_below (by (with_reducible repeat (first | apply Kd.R_alloc | apply Kd.R_drewN | apply Kd.R_drew)); exact HO_0.out) hb)
      replace HO_1 := as_ (Kd.R_below (by (with_reducible repeat (first | apply Kd.R_alloc | apply Kd.R_drewN | apply Kd.R_drew)); exact HO_1.out) hb)
      replace HO385 := as_ (Kd.R_below (by (with_reducible repeat (first | apply Kd.R_alloc | apply Kd.R_drewN | apply Kd.R_drew)); exact HO385.out) hb)
      replace HO392 := as_ (Kd.R_elder' (by (with_reducible repeat (first | apply Kd.R_alloc | apply Kd.R_drewN | apply Kd.R_drew)); exact HO392.out) (Kd.R_base ho0) hb)
      replace HR389 := as_ (Kd.C_below (by repeat (first | (with_reducible exact HR389.out) | (with_reducible refine Kd.C_alloc ?_ _) | (with_reducible refine Kd.C_drewN ?_ _) | (with_reducible refine Kd.C_drew ?_) | exact HR389.out)) hb)
      replace HR396 := as_ (Kd.C_below (by repeat (first | (with_reducible exact HR396.out) | (with_reducible refine Kd.C_alloc ?_ _) | (with_reducible refine Kd.C_drewN ?_ _) | (with_reducible refine Kd.C_drew ?_) | exact HR396.out)) hb)
      replace HB := as_ (below_step bA hb)
      (try clear hb)
      (try clear hb2)
      (try clear hk)
      (try clear hi)
      (try clear ho0)
      obtain ⟨Ao49, co49, eo49⟩ := Kd.R_slice HO392.out
      (first | subst eo49 | (injection eo49 with f1_ f2_ f3_; have f4_ := f1_.symm; have f5_ := f3_.symm; clear f1_ f2_ f3_; subst f4_; subst f5_))
      obtain ⟨Ao50, co50, eo50⟩ := Kd.R_slice HO399.out
      (first | subst eo50 | (injection eo50 with f1_ f2_ f3_; have f4_ := f1_.symm; have f5_ := f3_.symm; clear f1_ f2_ f3_; subst f4_; subst f5_))
      refine hK.out _ _ trivial (fun hHeld => ?_)
      clear hK K
      refine norm_ (a' := ?_) ?_ ?_
      rotate_left
      ·show Act.put _ (some 89) _ = _
       simp only [Act.put, List.setIfInBounds_toArray, List.set_cons_zero, List.set_cons_succ, i64_w, i32_w]
       rfl
      refine one_ (i := 16) (N := some 90) #[tt, tt, tt, tt, tt, tt, tt, tt, tt, tt, tt, tt, tt, tt, tt, tt, tt, ff, ff] rfl rfl (one_of HT_.out (by kernel_rfl)) (by decide) (fun K hK => ?_)
      refine goes_ Tryd.func20 (by kernel_rfl) rfl #[.slice Ao49 t390.length co49, .slice Ao50 t397.length co50] (by rfl) rfl rfl aO ?_
      with_reducible refine (withyref04_Same.calls kj20 _ _ t390 _ _ t397 t400 _ ?side1 ?side2 ?side3 ?side4 A43.out).mono ?_
      (case side1 => repeat (first | exact (Kd.R_reads' HO392.out).2.2 | (with_reducible refine Kd.C_alloc ?_ _) | (with_reducible refine Kd.C_drewN ?_ _) | (with_reducible refine Kd.C_drew ?_)))
      (case side2 => exact (Kd.R_reads' HO392.out).2.1)
      (case side3 => repeat (first | exact (Kd.R_reads' HO399.out).2.2 | (with_reducible refine Kd.C_alloc ?_ _) | (with_reducible refine Kd.C_drewN ?_ _) | (with_reducible refine Kd.C_drew ?_)))
      (case side4 => exact (Kd.R_reads' HO399.out).2.1)
      rintro e w' ⟨rfl, ⟨nd, rfl⟩⟩
      refine ⟨_, rfl, ?_⟩
      refine hK.out _ _ trivial (fun hHeld => ?_)
      clear hK K
      refine norm_ (a' := ?_) ?_ ?_
      rotate_left
      ·show Act.put _ (some 90) _ = _
       simp only [Act.put, List.setIfInBounds_toArray, List.set_cons_zero, List.set_cons_succ, i64_w, i32_w]
       rfl
      refine pure_ (i := 17) (N := some 91) (v := ?_) (a' := ?_) #[tt, tt, tt, tt, tt, tt, tt, tt, tt, tt, tt, tt, tt, tt, tt, tt, tt, tt, ff] rfl rfl (any_of HT_.out (by kernel_rfl)) (fun _ _ _ h => h) (Or.inl ⟨by rfl, ?_⟩) ?_ ?_
      rotate_left
      ·intro w'
       go_simp
       with_reducible rfl
      rotate_left
      ·exact aP
      refine pure_ (i := 18) (N := some 16) (v := ?_) (a' := ?_) #[tt, tt, tt, tt, tt, tt, tt, tt, tt, tt, tt, tt, tt, tt, tt, tt, tt, tt, tt] rfl rfl (any_of HT_.out (by kernel_rfl)) (fun _ _ _ h => h) (Or.inl ⟨by rfl, ?_⟩) ?_ ?_
      rotate_left
      ·intro w'
       go_simp
       with_reducible rfl
      rotate_left
      ·exact aP
      refine done_ (done_of HT_.out (by kernel_rfl)) ?_
      try go_wp2
      go_meet
      case rel => exact ⟨_, (t400), (by first | rfl | (simp; done) | (simp [*]; done)), (by first | exact H' | (rw [hji39]; exact H') | (rw [hji35]; exact H')), ⟨by have := HJ7.out; have := HJ20.out; first | omega | exact Nat.le_refl _⟩, ⟨by (with_reducible repeat (first | apply Kd.R_alloc | apply Kd.R_drewN | apply Kd.R_drew)); exact Kd.R_mono HO_0.out (fun _ hk => hk.2)⟩, ⟨by (with_reducible repeat (first | apply Kd.R_alloc | apply Kd.R_drewN | apply Kd.R_drew)); exact Kd.R_mono HO385.out (fun _ hk => hk.1.2)⟩, ⟨by repeat (first | (with_reducible first | exact HB.out | apply below_alloc | apply pw_below_drewN | apply below_drew1) | exact HB.out)⟩⟩
     case rest =>
      clear HC32
      try clear c1
      try clear c2
      try clear p2
      try clear c3
      try clear c4
      try clear q4
      try clear p6
      try clear c7
      try clear c9
      try clear c10
      try clear c12
      try clear c13
      try clear c15
      try clear c15b0
      try clear c15b1
      try clear c16
      try clear c19
      try clear c19b0
      try clear c19b1
      try clear c20
      try clear c21
      try clear c23
      try clear c23b0
      try clear c23b1
      try clear c24
      try clear c24b0
      try clear c24b1
      try clear c25
      try clear c25b0
      try clear c25b1
      try clear c26
      try clear c26b0
      try clear c26b1
      try clear c28
      try clear c29
      try clear c29b0
      try clear c29b1
      try clear c29b2
      try clear c34
      try clear c34b0
      try clear c34b1
      try clear c36
      try clear c36b0
      try clear c36b1
      try clear c37
      try clear c37b0
      try clear c37b1
      try clear c40
      try clear c40b0
      try clear c40b1
      try clear c41
      try clear c41b0
      try clear c41b1
      try clear q45
      try clear q46
      try clear p2
      try clear p6
      try clear q45
      try clear q46
      obtain ⟨kq, x16_31, rfl, HA, HJ31, HO_0, HO_14, HB⟩ := hcut
      cases kq with
      | zero => exact absurd HA.out (by simp [withylaw04_KeyParts.j2])
      | succ kj31 =>
       have H := HA.out
       clear HA
       simp only [withylaw04_KeyParts.j2] at H
       have HC52 := Aside0.mk H
       clear H
       go_upto_region 13 with (fail)
       go_cut [17] (fun v17 wc => ∃ (kq : Nat) (x17_51 : Bool), v17 = .bool x17_51 ∧ Aside0 (withylaw04_KeyParts.j3 kq t369 (Int.tmod (wrap64 (a2)) (wrap64 ((t369.length : Int) + 1))) t382 t383 x16_31 x17_51 = some r) ∧ Aside0 (kq ≤ kj31) ∧ Aside0 (Kd.R k51 51 wc w.heap.size (fun k_ => some k_ ≠ (v384 : Value).ownBlock) (.slice Ao11 t369.length co11) t369) ∧ Aside0 (Kd.R k51 51 wc w.heap.size (fun k_ => some k_ ≠ ((.slice Ao11 t369.length co11) : Value).ownBlock) v384 t382) ∧ Aside0 (Below w.heap.size w wc))
       case first =>
        have H := HC52.out
        clear HC52
        by_cases c53 : (t377.size : Int) ≥ (t380.size : Int)
        rotate_left
        ·rw [if_neg c53] at H
         have c53b0 : decide ((t380.size : Int) ≤ (t377.size : Int)) = false := decide_eq_false c53
         have c53b1 : decide (t380.size ≤ t377.size) = false := decide_eq_false (fun h => c53 (Int.ofNat_le.mpr h))
         clear c53
         (first | rw [c53b0] | (simp only [i64_w, i32_w]; rw [c53b0]) | rw [c53b1] | skip)
         have H' := Aside0.mk H
         clear H
         go_wp2
         go_meet
         case rel => exact ⟨_, (false), (by first | rfl | (simp; done) | (simp [*]; done)), (by first | exact H' | (rw [hji39]; exact H') | (rw [hji35]; exact H')), ⟨by have := HJ7.out; have := HJ20.out; have := HJ31.out; first | omega | exact Nat.le_refl _⟩, ⟨by (with_reducible repeat (first | apply Kd.R_alloc | apply Kd.R_drewN | apply Kd.R_drew)); exact HO_0.out⟩, ⟨by (with_reducible repeat (first | apply Kd.R_alloc | apply Kd.R_drewN | apply Kd.R_drew)); exact HO_14.out⟩, ⟨by repeat (first | (with_reducible first | exact HB.out | apply below_alloc | apply pw_below_drewN | apply below_drew1) | exact HB.out)⟩⟩
        rw [if_pos c53] at H
        have c53b0 : decide ((t380.size : Int) ≤ (t377.size : Int)) = true := decide_eq_true c53
        have c53b1 : decide (t380.size ≤ t377.size) = true := decide_eq_true (Int.ofNat_le.mp c53)
        clear c53
        (first | rw [c53b0] | (simp only [i64_w, i32_w]; rw [c53b0]) | rw [c53b1] | skip)
        by_cases c54 : 0 ≤ (t380.size : Int)
        rotate_left
        ·rw [if_neg c54] at H
         exact absurd H (by simp)
        rw [if_pos c54] at H
        have c54b0 := eq_true c54
        have c54b1 : decide (0 ≤ (t380.size : Int)) = true := decide_eq_true c54
        clear c54
        by_cases c55 : (t380.size : Int) ≤ (t377.size : Int)
        rotate_left
        ·rw [if_neg c55] at H
         exact absurd H (by simp)
        rw [if_pos c55] at H
        have c55b0 := eq_true c55
        have c55b1 : decide ((t380.size : Int) ≤ (t377.size : Int)) = true := decide_eq_true c55
        clear c55
        obtain ⟨js56, hjs56⟩ : ∃ j_ : ByteArray, (t377.extract 0 t380.size) = j_ := ⟨_, rfl⟩
        replace H : (withylaw04_KeyParts.j3 kj31 t369 (Int.tmod (wrap64 (a2)) (wrap64 ((t369.length : Int) + 1))) t382 t383 x16_31 ((js56).toList == t380.toList)) = some r := by first | (rw [hjs56] at H; exact H) | (simp only [hjs56] at H ⊢; exact H)
        have H' := Aside0.mk H
        clear H
        go_wp2
        go_meet
        case rel => exact ⟨_, (((js56).toList == t380.toList)), (by first | rfl | (simp; done) | (simp only [← hjs56] <;> (first | rfl | simp)) | (simp [*]; done)), (by first | exact H' | (rw [hji39]; exact H') | (rw [hji35]; exact H')), ⟨by have := HJ7.out; have := HJ20.out; have := HJ31.out; first | omega | exact Nat.le_refl _⟩, ⟨by (with_reducible repeat (first | apply Kd.R_alloc | apply Kd.R_drewN | apply Kd.R_drew)); exact HO_0.out⟩, ⟨by (with_reducible repeat (first | apply Kd.R_alloc | apply Kd.R_drewN | apply Kd.R_drew)); exact HO_14.out⟩, ⟨by repeat (first | (with_reducible first | exact HB.out | apply below_alloc | apply pw_below_drewN | apply below_drew1) | exact HB.out)⟩⟩
       case rest =>
        clear HC52
        try clear c1
        try clear c2
        try clear p2
        try clear c3
        try clear c4
        try clear q4
        try clear c5
        try clear p6
        try clear c7
        try clear c9
        try clear c10
        try clear c12
        try clear c13
        try clear c15
        try clear c15b0
        try clear c15b1
        try clear c16
        try clear c19
        try clear c19b0
        try clear c19b1
        try clear c20
        try clear c21
        try clear c23
        try clear c23b0
        try clear c23b1
        try clear c24
        try clear c24b0
        try clear c24b1
        try clear c25
        try clear c25b0
        try clear c25b1
        try clear c26
        try clear c26b0
        try clear c26b1
        try clear c28
        try clear c29
        try clear c29b0
        try clear c29b1
        try clear c29b2
        try clear c34
        try clear c34b0
        try clear c34b1
        try clear c36
        try clear c36b0
        try clear c36b1
        try clear c37
        try clear c37b0
        try clear c37b1
        try clear c40
        try clear c40b0
        try clear c40b1
        try clear c41
        try clear c41b0
        try clear c41b1
        try clear q45
        try clear q46
        try clear c53
        try clear c53b0
        try clear c53b1
        try clear c54
        try clear c54b0
        try clear c54b1
        try clear c55
        try clear c55b0
        try clear c55b1
        try clear p2
        try clear p6
        try clear q4
        try clear q45
        try clear q46
        obtain ⟨kq, x17_51, rfl, HA, HJ51, HO_0, HO_14, HB⟩ := hcut
        cases kq with
        | zero => exact absurd HA.out (by simp [withylaw04_KeyParts.j3])
        | succ kj51 =>
         have H := HA.out
         clear HA
         simp only [withylaw04_KeyParts.j3] at H
         by_cases c57 : t383 = 0
         rotate_left
         ·rw [if_neg c57] at H
          exact absurd H (by simp)
         rw [if_pos c57] at H
         have c57b0 : (t383 == 0) = true := beq_iff_eq.mpr c57
         have c57b1 : (t383 != 0) = false := bne_eq_false_iff_eq.mpr c57
         clear c57
         replace H := bM H
         obtain ⟨t401, A580, H⟩ := H
         replace H : (if 0 ≤ (Int.tmod (wrap64 (a2)) (wrap64 ((t369.length : Int) + 1))) then (if (Int.tmod (wrap64 (a2)) (wrap64 ((t369.length : Int) + 1))) ≤ (t369.length : Int) then ((withylaw04_Ref.f kj51 (t369.take ((Int.tmod (wrap64 (a2)) (wrap64 ((t369.length : Int) + 1))) : Int).toNat)).bind fun t408 => ((withyref04_Same.f kj51 t401 t408).bind fun t411 => (if t411 = true then (if (x16_31 == x17_51) = true then ((withylaw04_fixed.f kj51).bind fun t412 => (some t412)) else (none)) else (none)))) else (none)) else (none)) = some r := H
         have A58 := Aside0.mk A580
         clear A580
         obtain ⟨ji59, hji59⟩ : ∃ j_ : Int, (Int.tmod (wrap64 (a2)) (wrap64 ((t369.length : Int) + 1))) = j_ := ⟨_, rfl⟩
         (try clear hji39w)
         (try clear hji39)
         replace H : (if 0 ≤ (ji59) then (if (ji59) ≤ (t369.length : Int) then ((withylaw04_Ref.f kj51 (t369.take ((ji59) : Int).toNat)).bind fun t408 => ((withyref04_Same.f kj51 t401 t408).bind fun t411 => (if t411 = true then (if (x16_31 == x17_51) = true then ((withylaw04_fixed.f kj51).bind fun t412 => (some t412)) else (none)) else (none)))) else (none)) else (none)) = some r := by first | (rw [hji59] at H; exact H) | (simp only [hji59] at H ⊢; exact H)
         (try rw [hji59] at hji35_)
         (try rw [hji59] at A58)
         by_cases c60 : 0 ≤ (ji59)
         rotate_left
         ·rw [if_neg c60] at H
          exact absurd H (by simp)
         rw [if_pos c60] at H
         have c60b0 := eq_true c60
         have c60b1 : decide (0 ≤ (ji59)) = true := decide_eq_true c60
         clear c60
         by_cases c61 : (ji59) ≤ (t369.length : Int)
         rotate_left
         ·rw [if_neg c61] at H
          exact absurd H (by simp)
         rw [if_pos c61] at H
         have c61b0 := eq_true c61
         have c61b1 : decide ((ji59) ≤ (t369.length : Int)) = true := decide_eq_true c61
         clear c61
         obtain ⟨y404, hy404⟩ : ∃ y_ : List (S51), y_ = (t369.take ((ji59) : Int).toNat) := ⟨_, rfl⟩
         replace H : ((withylaw04_Ref.f kj51 y404).bind fun t408 => ((withyref04_Same.f kj51 t401 t408).bind fun t411 => (if t411 = true then (if (x16_31 == x17_51) = true then ((withylaw04_fixed.f kj51).bind fun t412 => (some t412)) else (none)) else (none)))) = some r := by first | (rw [hy404]; with_reducible exact H) | (have H2_ := (Option.bind_some _ _).symm.trans H; rw [hy404]; with_reducible exact H2_) | (have H2_ := (Option.bind_some _ _).symm.trans H; with_reducible exact H2_) | with_reducible exact H | (rw [hy404]; exact H) | exact H
         have Ny404 := Aside0.mk hy404
         clear hy404
         replace H := bM H
         obtain ⟨t408, A620, H⟩ := H
         replace H : ((withyref04_Same.f kj51 t401 t408).bind fun t411 => (if t411 = true then (if (x16_31 == x17_51) = true then ((withylaw04_fixed.f kj51).bind fun t412 => (some t412)) else (none)) else (none))) = some r := H
         have A62 := Aside0.mk A620
         clear A620
         replace H := bM H
         obtain ⟨t411, A630, H⟩ := H
         replace H : (if t411 = true then (if (x16_31 == x17_51) = true then ((withylaw04_fixed.f kj51).bind fun t412 => (some t412)) else (none)) else (none)) = some r := H
         have A63 := Aside0.mk A630
         clear A630
         by_cases c64 : t411 = true
         rotate_left
         ·replace c64 := Bool.eq_false_iff.mpr c64
          subst c64
          have H1 : (none) = some r := by rw [if_neg (show ¬ (false = true) by decide)] at H; exact H
          clear H
          have H := H1
          clear H1
          exact absurd H (by simp)
         subst c64
         have H1 : (if (x16_31 == x17_51) = true then ((withylaw04_fixed.f kj51).bind fun t412 => (some t412)) else (none)) = some r := by rw [if_pos rfl] at H; exact H
         clear H
         have H := H1
         clear H1
         by_cases c65 : (x16_31 == x17_51) = true
         rotate_left
         ·rw [if_neg c65] at H
          exact absurd H (by simp)
         rw [if_pos c65] at H
         have c65b0 : (x16_31 == x17_51) = true := c65
         (try (have c65b1 : decide (x16_31 = x17_51) = true := by simpa using c65))
         (try (have c65b2 : (x16_31 == x17_51) = true := by simpa using c65))
         clear c65
         replace H := bM H
         obtain ⟨t412, A660, H⟩ := H
         replace H : (some t412) = some r := H
         have A66 := Aside0.mk A660
         clear A660
         obtain rfl := Option.some.inj H
         try go_wp2
         replace HO_0 := as_ (Kd.R_drew HO_0.out)
         replace HO_14 := as_ (Kd.R_drew HO_14.out)
         replace HB := as_ (below_drew1 HB.out)
         have q68 : ((ji59) : Int) ≤ ((t369.length : Int) : Int) := of_decide_eq_true aM
         obtain ⟨i068, hi068, _, hsz68, _⟩ := info_parts info51
         have hroom68 : t369.length ≤ co11 := (Kd.R_reads' HO_0.out).2.1
         have hC68 : Kd.C k51 _ Ao11 t369.length t369 := (Kd.R_reads' HO_0.out).2.2
         have hcut68 := cut_to (P := Tryd.prog) 22 51 .i64 Tryd.underlying22 hi068 Ao11 t369.length co11 (ji59) (of_decide_eq_true aM) q68 hroom68
         have hr68 := Kd.C_take (m := ((ji59) : Int).toNat) hC68 (by omega)
         have hy68 : y404.length = ((ji59) : Int).toNat := (by rw [Ny404.out, List.length_take]; omega)
         rw [← Ny404.out] at hr68
         rw [← hy68] at hcut68
         have HR407 := Aside0.mk hr68
         have HC407 := as_ (show y404.length ≤ co11 from by omega)
         clear hr68 hC68 hroom68 hi068 hsz68
         have KY68 := Aside0.mk hy68
         clear hy68
         have KL68 := as_ (show ((ji59) : Int).toNat ≤ t369.length from by omega)
         replace q68 := eq_true q68
         obtain ⟨Ao69, co69, eo69⟩ := Kd.R_slice HO_14.out
         (first | subst eo69 | (injection eo69 with f1_ f2_ f3_; have f4_ := f1_.symm; have f5_ := f3_.symm; clear f1_ f2_ f3_; subst f4_; subst f5_))
         refine start_ (n := 20) (S := fun w' => True) (ds := []) #[ff, ff, ff, ff, ff, ff, ff, ff, ff, ff, ff, ff, ff, ff, ff, ff, ff, ff, ff, ff] (by kernel_rfl) rfl rfl trivial (fun hHeld => ?_); refine with_tabW withylaw04_KeyParts.tab14 withylaw04_KeyParts.bits14 (fun HT_ HW_ => ?_)
         generalize wc.drew = w67 at HO_0 HO_14 HB HR407 hHeld ⊢
         refine pure_ (i := 0) (N := some 105) (v := ?_) (a' := ?_) #[tt, ff, ff, ff, ff, ff, ff, ff, ff, ff, ff, ff, ff, ff, ff, ff, ff, ff, ff, ff] rfl rfl (any_of HT_.out (by kernel_rfl)) (fun _ _ _ h => h) (Or.inl ⟨by rfl, ?_⟩) ?_ ?_
         rotate_left
         ·intro w'
          go_simp
          with_reducible rfl
         rotate_left
         ·exact aP
         refine pure_ (i := 1) (N := some 106) (v := ?_) (a' := ?_) #[tt, tt, ff, ff, ff, ff, ff, ff, ff, ff, ff, ff, ff, ff, ff, ff, ff, ff, ff, ff] rfl rfl (any_of HT_.out (by kernel_rfl)) (fun _ _ _ h => h) (Or.inl ⟨by rfl, ?_⟩) ?_ ?_
         rotate_left
         ·intro w'
          go_simp
          with_reducible rfl
         rotate_left
         ·exact aP
         refine pure_ (i := 2) (N := some 107) (v := ?_) (a' := ?_) #[tt, tt, tt, ff, ff, ff, ff, ff, ff, ff, ff, ff, ff, ff, ff, ff, ff, ff, ff, ff] rfl rfl (any_of HT_.out (by kernel_rfl)) (fun _ _ _ h => h) (Or.inl ⟨by rfl, ?_⟩) ?_ ?_
         rotate_left
         ·intro w'
          go_simp
          with_reducible rfl
         rotate_left
         ·exact aP
         refine pure_ (i := 3) (N := some 108) (v := ?_) (a' := ?_) #[tt, tt, tt, tt, ff, ff, ff, ff, ff, ff, ff, ff, ff, ff, ff, ff, ff, ff, ff, ff] rfl rfl (any_of HT_.out (by kernel_rfl)) (fun _ _ _ h => h) (Or.inl ⟨by rfl, ?_⟩) ?_ ?_
         rotate_left
         ·intro w'
          go_simp
          with_reducible rfl
         rotate_left
         ·exact aP
         refine pure_ (i := 5) (N := some 110) (v := ?_) (a' := ?_) #[tt, tt, tt, tt, ff, tt, ff, ff, ff, ff, ff, ff, ff, ff, ff, ff, ff, ff, ff, ff] rfl rfl (any_of HT_.out (by kernel_rfl)) (fun _ _ _ h => h) (Or.inl ⟨by rfl, ?_⟩) ?_ ?_
         rotate_left
         ·intro w'
          go_simp
          with_reducible rfl
         rotate_left
         ·exact aP
         refine pure_ (i := 6) (N := some 111) (v := ?_) (a' := ?_) #[tt, tt, tt, tt, ff, tt, tt, ff, ff, ff, ff, ff, ff, ff, ff, ff, ff, ff, ff, ff] rfl rfl (any_of HT_.out (by kernel_rfl)) (fun _ _ _ h => h) (Or.inl ⟨by rfl, ?_⟩) ?_ ?_
         rotate_left
         ·intro w'
          go_simp
          with_reducible rfl
         rotate_left
         ·exact aP
         refine pure_ (i := 7) (N := some 112) (v := ?_) (a' := ?_) #[tt, tt, tt, tt, ff, tt, tt, tt, ff, ff, ff, ff, ff, ff, ff, ff, ff, ff, ff, ff] rfl rfl (any_of HT_.out (by kernel_rfl)) (fun _ _ _ h => h) (Or.inl ⟨by rfl, ?_⟩) ?_ ?_
         rotate_left
         ·intro w'
          go_simp
          with_reducible rfl
         rotate_left
         ·exact aP
         refine one_ (i := 4) (N := some 109) #[tt, tt, tt, tt, tt, tt, tt, tt, ff, ff, ff, ff, ff, ff, ff, ff, ff, ff, ff, ff] rfl rfl (one_of HT_.out (by kernel_rfl)) (by decide) (fun K hK => ?_)
         refine goes_ Tryd.func12 (by kernel_rfl) rfl #[.slice Ao69 t382.length co69] (by rfl) rfl rfl aO ?_
         with_reducible refine (withylaw04_Ref.calls kj51 _ _ t382 t401 _ ?side1 ?side2 A58.out).mono ?_
         (case side1 => repeat (first | exact (Kd.R_reads' HO_14.out).2.2 | (with_reducible refine Kd.C_alloc ?_ _) | (with_reducible refine Kd.C_drewN ?_ _) | (with_reducible refine Kd.C_drew ?_)))
         (case side2 => exact (Kd.R_reads' HO_14.out).2.1)
         rintro e w70 ⟨v402, rfl, ho0, hb⟩
         refine ⟨_, rfl, ?_⟩
         have HO403 := as_ (Kd.R_lower ho0 (below_size bA))
         replace HO_0 := as_ (Kd.R_below (by (with_reducible repeat (first | apply Kd.R_alloc | apply Kd.R_drewN | apply Kd.R_drew)); exact HO_0.out) hb)
         replace HO_14 := as_ (Kd.R_below (by (with_reducible repeat (first | apply Kd.R_alloc | apply Kd.R_drewN | apply Kd.R_drew)); exact HO_14.out) hb)
         replace HR407 := as_ (Kd.C_below (by repeat (first | (with_reducible exact HR407.out) | (with_reducible refine Kd.C_alloc ?_ _) | (with_reducible refine Kd.C_drewN ?_ _) | (with_reducible refine Kd.C_drew ?_) | exact HR407.out)) hb)
         replace HB := as_ (below_step bA hb)
         (try clear hb)
         (try clear hb2)
         (try clear hk)
         (try clear hi)
         (try clear ho0)
         refine hK.out _ _ trivial (fun hHeld => ?_)
         clear hK K
         refine norm_ (a' := ?_) ?_ ?_
         rotate_left
         ·show Act.put _ (some 109) _ = _
          simp only [Act.put, List.setIfInBounds_toArray, List.set_cons_zero, List.set_cons_succ, i64_w, i32_w]
          rfl
         refine one_ (i := 8) (N := some 113) #[tt, tt, tt, tt, tt, tt, tt, tt, tt, ff, ff, ff, ff, ff, ff, ff, ff, ff, ff, ff] rfl rfl (one_of HT_.out (by kernel_rfl)) (by decide) (fun K hK => ?_)
         refine goes_ Tryd.func12 (by kernel_rfl) rfl #[.slice Ao11 y404.length co11] (by rfl) rfl rfl aO ?_
         with_reducible refine (withylaw04_Ref.calls kj51 _ _ y404 t408 _ ?side1 ?side2 A62.out).mono ?_
         (case side1 => repeat (first | exact (by repeat (first | (with_reducible exact HR407.out) | (with_reducible refine Kd.C_alloc ?_ _) | (with_reducible refine Kd.C_drewN ?_ _) | (with_reducible refine Kd.C_drew ?_) | exact HR407.out)) | (with_reducible refine Kd.C_alloc ?_ _) | (with_reducible refine Kd.C_drewN ?_ _) | (with_reducible refine Kd.C_drew ?_)))
         (case side2 => exact HC407.out)
         rintro e w71 ⟨v409, rfl, ho0, hb⟩
         refine ⟨_, rfl, ?_⟩
         have HO410 := as_ (Kd.R_lower (Kd.R_new' ho0 (Kd.R_lt (by (with_reducible repeat (first | apply Kd.R_alloc | apply Kd.R_drewN | apply Kd.R_drew)); exact HO403.out))) (below_size bA))
         replace HO_0 := as_ (Kd.R_below (by (with_reducible repeat (first | apply Kd.R_alloc | apply Kd.R_drewN | apply Kd.R_drew)); exact HO_0.out) hb)
         replace HO_14 := as_ (Kd.R_below (by (with_reducible repeat (first | apply Kd.R_alloc | apply Kd.R_drewN | apply Kd.R_drew)); exact HO_14.out) hb)
         replace HO403 := as_ (Kd.R_elder' (by (with_reducible repeat (first | apply Kd.R_alloc | apply Kd.R_drewN | apply Kd.R_drew)); exact HO403.out) (Kd.R_base ho0) hb)
         replace HR407 := as_ (Kd.C_below (by repeat (first | (with_reducible exact HR407.out) | (with_reducible refine Kd.C_alloc ?_ _) | (with_reducible refine Kd.C_drewN ?_ _) | (with_reducible refine Kd.C_drew ?_) | exact HR407.out)) hb)
         replace HB := as_ (below_step bA hb)
         (try clear hb)
         (try clear hb2)
         (try clear hk)
         (try clear hi)
         (try clear ho0)
         obtain ⟨Ao72, co72, eo72⟩ := Kd.R_slice HO403.out
         (first | subst eo72 | (injection eo72 with f1_ f2_ f3_; have f4_ := f1_.symm; have f5_ := f3_.symm; clear f1_ f2_ f3_; subst f4_; subst f5_))
         obtain ⟨Ao73, co73, eo73⟩ := Kd.R_slice HO410.out
         (first | subst eo73 | (injection eo73 with f1_ f2_ f3_; have f4_ := f1_.symm; have f5_ := f3_.symm; clear f1_ f2_ f3_; subst f4_; subst f5_))
         refine hK.out _ _ trivial (fun hHeld => ?_)
         clear hK K
         refine norm_ (a' := ?_) ?_ ?_
         rotate_left
         ·show Act.put _ (some 113) _ = _
          simp only [Act.put, List.setIfInBounds_toArray, List.set_cons_zero, List.set_cons_succ, i64_w, i32_w]
          rfl
         refine one_ (i := 9) (N := some 114) #[tt, tt, tt, tt, tt, tt, tt, tt, tt, tt, ff, ff, ff, ff, ff, ff, ff, ff, ff, ff] rfl rfl (one_of HT_.out (by kernel_rfl)) (by decide) (fun K hK => ?_)
         refine goes_ Tryd.func20 (by kernel_rfl) rfl #[.slice Ao72 t401.length co72, .slice Ao73 t408.length co73] (by rfl) rfl rfl aO ?_
         with_reducible refine (withyref04_Same.calls kj51 _ _ t401 _ _ t408 true _ ?side1 ?side2 ?side3 ?side4 A63.out).mono ?_
         (case side1 => repeat (first | exact (Kd.R_reads' HO403.out).2.2 | (with_reducible refine Kd.C_alloc ?_ _) | (with_reducible refine Kd.C_drewN ?_ _) | (with_reducible refine Kd.C_drew ?_)))
         (case side2 => exact (Kd.R_reads' HO403.out).2.1)
         (case side3 => repeat (first | exact (Kd.R_reads' HO410.out).2.2 | (with_reducible refine Kd.C_alloc ?_ _) | (with_reducible refine Kd.C_drewN ?_ _) | (with_reducible refine Kd.C_drew ?_)))
         (case side4 => exact (Kd.R_reads' HO410.out).2.1)
         rintro e w' ⟨rfl, ⟨nd, rfl⟩⟩
         refine ⟨_, rfl, ?_⟩
         refine hK.out _ _ trivial (fun hHeld => ?_)
         clear hK K
         refine norm_ (a' := ?_) ?_ ?_
         rotate_left
         ·show Act.put _ (some 114) _ = _
          simp only [Act.put, List.setIfInBounds_toArray, List.set_cons_zero, List.set_cons_succ, i64_w, i32_w]
          rfl
         refine pure_ (i := 10) (N := some 115) (v := ?_) (a' := ?_) #[tt, tt, tt, tt, tt, tt, tt, tt, tt, tt, tt, ff, ff, ff, ff, ff, ff, ff, ff, ff] rfl rfl (any_of HT_.out (by kernel_rfl)) (fun _ _ _ h => h) (Or.inl ⟨by rfl, ?_⟩) ?_ ?_
         rotate_left
         ·intro w'
          go_simp
          with_reducible rfl
         rotate_left
         ·exact aP
         refine pure_ (i := 11) (N := some 116) (v := ?_) (a' := ?_) #[tt, tt, tt, tt, tt, tt, tt, tt, tt, tt, tt, tt, ff, ff, ff, ff, ff, ff, ff, ff] rfl rfl (any_of HT_.out (by kernel_rfl)) (fun _ _ _ h => h) (Or.inl ⟨by rfl, ?_⟩) ?_ ?_
         rotate_left
         ·intro w'
          go_simp
          with_reducible rfl
         rotate_left
         ·exact aP
         refine pure_ (i := 12) (N := some 117) (v := ?_) (a' := ?_) #[tt, tt, tt, tt, tt, tt, tt, tt, tt, tt, tt, tt, tt, ff, ff, ff, ff, ff, ff, ff] rfl rfl (any_of HT_.out (by kernel_rfl)) (fun _ _ _ h => h) (Or.inl ⟨by rfl, ?_⟩) ?_ ?_
         rotate_left
         ·intro w'
          go_simp
          with_reducible rfl
         rotate_left
         ·exact aP
         refine pure_ (i := 13) (N := some 118) (v := ?_) (a' := ?_) #[tt, tt, tt, tt, tt, tt, tt, tt, tt, tt, tt, tt, tt, tt, ff, ff, ff, ff, ff, ff] rfl rfl (any_of HT_.out (by kernel_rfl)) (fun _ _ _ h => h) (Or.inl ⟨by rfl, ?_⟩) ?_ ?_
         rotate_left
         ·intro w'
          go_simp
          with_reducible rfl
         rotate_left
         ·exact aP
         refine pure_ (i := 14) (N := some 119) (v := ?_) (a' := ?_) #[tt, tt, tt, tt, tt, tt, tt, tt, tt, tt, tt, tt, tt, tt, tt, ff, ff, ff, ff, ff] rfl rfl (any_of HT_.out (by kernel_rfl)) (fun _ _ _ h => h) (Or.inl ⟨by rfl, ?_⟩) ?_ ?_
         rotate_left
         ·intro w'
          go_simp
          with_reducible rfl
         rotate_left
         ·exact aP
         refine pure_ (i := 15) (N := some 120) (v := ?_) (a' := ?_) #[tt, tt, tt, tt, tt, tt, tt, tt, tt, tt, tt, tt, tt, tt, tt, tt, ff, ff, ff, ff] rfl rfl (any_of HT_.out (by kernel_rfl)) (fun _ _ _ h => h) (Or.inl ⟨by rfl, ?_⟩) ?_ ?_
         rotate_left
         ·intro w'
          go_simp
          with_reducible rfl
         rotate_left
         ·exact aP
         refine pure_ (i := 16) (N := some 121) (v := ?_) (a' := ?_) #[tt, tt, tt, tt, tt, tt, tt, tt, tt, tt, tt, tt, tt, tt, tt, tt, tt, ff, ff, ff] rfl rfl (any_of HT_.out (by kernel_rfl)) (fun _ _ _ h => h) (Or.inl ⟨by rfl, ?_⟩) ?_ ?_
         rotate_left
         ·intro w'
          go_simp
          with_reducible rfl
         rotate_left
         ·exact aP
         refine one_ (i := 17) (N := some 122) #[tt, tt, tt, tt, tt, tt, tt, tt, tt, tt, tt, tt, tt, tt, tt, tt, tt, tt, ff, ff] rfl rfl (one_of HT_.out (by kernel_rfl)) (by decide) (fun K hK => ?_)
         refine goes_ Tryd.func21 (by kernel_rfl) rfl #[] (by rfl) rfl rfl aO ?_
         with_reducible refine (withylaw04_fixed.calls kj51  t412 _ A66.out).mono ?_
         rintro e w74 ⟨rfl, hb⟩
         refine ⟨_, rfl, ?_⟩
         replace HO_0 := as_ (Kd.R_below (by (with_reducible repeat (first | apply Kd.R_alloc | apply Kd.R_drewN | apply Kd.R_drew)); exact HO_0.out) hb)
         replace HO_14 := as_ (Kd.R_below (by (with_reducible repeat (first | apply Kd.R_alloc | apply Kd.R_drewN | apply Kd.R_drew)); exact HO_14.out) hb)
         replace HO403 := as_ (Kd.R_below (by (with_reducible repeat (first | apply Kd.R_alloc | apply Kd.R_drewN | apply Kd.R_drew)); exact HO403.out) hb)
         replace HO410 := as_ (Kd.R_below (by (with_reducible repeat (first | apply Kd.R_alloc | apply Kd.R_drewN | apply Kd.R_drew)); exact HO410.out) hb)
         replace HR407 := as_ (Kd.C_below (by repeat (first | (with_reducible exact HR407.out) | (with_reducible refine Kd.C_alloc ?_ _) | (with_reducible refine Kd.C_drewN ?_ _) | (with_reducible refine Kd.C_drew ?_) | exact HR407.out)) hb)
         replace HB := as_ (below_step bA hb)
         (try clear hb)
         (try clear hb2)
         (try clear hk)
         (try clear hi)
         refine hK.out _ _ trivial (fun hHeld => ?_)
         clear hK K
         refine norm_ (a' := ?_) ?_ ?_
         rotate_left
         ·show Act.put _ (some 122) _ = _
          simp only [Act.put, List.setIfInBounds_toArray, List.set_cons_zero, List.set_cons_succ, i64_w, i32_w]
          rfl
         refine pure_ (i := 18) (N := some 123) (v := ?_) (a' := ?_) #[tt, tt, tt, tt, tt, tt, tt, tt, tt, tt, tt, tt, tt, tt, tt, tt, tt, tt, tt, ff] rfl rfl (any_of HT_.out (by kernel_rfl)) (fun _ _ _ h => h) (Or.inl ⟨by rfl, ?_⟩) ?_ ?_
         rotate_left
         ·intro w'
          go_simp
          with_reducible rfl
         rotate_left
         ·exact aP
         refine pure_ (i := 19) (N := some 6) (v := ?_) (a' := ?_) #[tt, tt, tt, tt, tt, tt, tt, tt, tt, tt, tt, tt, tt, tt, tt, tt, tt, tt, tt, tt] rfl rfl (any_of HT_.out (by kernel_rfl)) (fun _ _ _ h => h) (Or.inl ⟨by rfl, ?_⟩) ?_ ?_
         rotate_left
         ·intro w'
          go_simp
          with_reducible rfl
         rotate_left
         ·exact aP
         refine done_ (done_of HT_.out (by kernel_rfl)) ?_
         try go_wp2
         go_ret
         exact ⟨by first | rfl | (simp [errW_none, errW_some] <;> rfl) | (simp only [← hjs30, ← hji59]; first | rfl | (simp [errW_none, errW_some] <;> rfl)) | (simp [*, errW_none, errW_some] <;> rfl), by repeat (first | (with_reducible first | exact HB.out | apply below_alloc | apply pw_below_drewN | apply below_drew1) | exact HB.out)⟩
end Go.Proofs.YthaicofleloplaaDoor.P
