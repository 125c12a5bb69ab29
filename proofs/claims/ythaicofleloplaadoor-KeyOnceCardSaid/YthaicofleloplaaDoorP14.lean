/- What is proved here: for functions of the Go text, a Lean function each, and that the call comes to just what it answers. Conditions: as each contract names them. Written by wip/tools/myprint.py, a driver of the print of the kit. -/
import Derived.Test.YthaicofleloplaaDoorP0
import Derived.Test.YthaicofleloplaaDoorP3
import Derived.Test.YthaicofleloplaaDoorP5
import Derived.Test.YthaicofleloplaaDoorP6
import Derived.Test.YthaicofleloplaaDoorP7
import Derived.Test.YthaicofleloplaaDoorP11
import Derived.Test.YthaicofleloplaaDoorP12
import Derived.Test.YthaicofleloplaaDoorWAbbr
namespace Go.Proofs.YthaicofleloplaaDoor.P
open Go.RowKit Go.Proofs.YthaicofleloplaaDoorW.PrintWords Go.Proofs.YthaicofleloplaaDoorW.PrintLast Go.Proofs.YthaicofleloplaaDoorW.PrintMore Go.Proofs.YthaicofleloplaaDoorW.Abbr
-- PACKED
attribute [local go_sem] max2_int min2_int max_two min_two max_three min_three max_four min_four Go.Proofs.YthaicofleloplaaDoorLaws.str_leq Go.Proofs.YthaicofleloplaaDoorLaws.str_gtr Go.Proofs.YthaicofleloplaaDoorLaws.str_geq Go.Proofs.YthaicofleloplaaDoorLaws.max2_str Go.Proofs.YthaicofleloplaaDoorLaws.min2_str   -- for this text's walks alone
set_option linter.unusedVariables false
set_option linter.unusedSimpArgs false

/-! ### withylaw04_KeyBack: function 5 -/
def withylaw04_KeyBack.j0 : Nat → List (S51) → Int → Int → ByteArray → Int → Bool → Option (Bool)
 | 0, _, _, _, _, _, _ => none
 | k + 1, x0, x1, x2, x7, x8, x28 => if x28 = true then (if x8 = 3 then (if x7.toList = ([] : List UInt8) then ((withylaw04_right.f k x0).bind fun t335 => (if t335 = true then (none) else ((withylaw04_fixed.f k).bind fun t336 => (some t336)))) else (none)) else (none)) else ((key_Get.f k x7).bind fun bt337 => (if (x7.size : Int) = 0 then (none) else (if 0 ≤ (Int.tmod (wrap64 (x1)) (x7.size : Int)) then (if (Int.tmod (wrap64 (x1)) (x7.size : Int)) ≤ (x7.size : Int) then ((key_Get.f k (x7.extract 0 ((Int.tmod (wrap64 (x1)) (x7.size : Int)) : Int).toNat)).bind fun bt341 => ((some (([x2] : List Int) : List Int)).bind fun y345 => (if x7.size + (strOfNums y345).size ≤ 9223372036854775807 then ((key_Get.f k (x7 ++ (strOfNums y345))).bind fun bt348 => ((withylaw04_Ref.f k bt337.1).bind fun t352 => ((withylaw04_Ref.f k x0).bind fun t355 => ((withyref04_Same.f k t352 t355).bind fun t358 => (if t358 = true then (if bt337.2 = 0 then (if bt341.2 = 7 then (if bt348.2 = 3 then ((withylaw04_fixed.f k).bind fun t359 => (some t359)) else (none)) else (none)) else (none)) else (none)))))) else (none)))) else (none)) else (none))))
def withylaw04_KeyBack.f (k : Nat) (l0 : List (S51)) (a1 : Int) (a2 : Int) : Option (Bool) := (withylaw04_Cut.f k l0).bind fun t330 => ((key_Put.f k t330).bind fun bt333 => (if bt333.2 = 0 then (withylaw04_KeyBack.j0 k t330 a1 a2 bt333.1 bt333.2 ((bt333.1.size : Int) == 0)) else (withylaw04_KeyBack.j0 k t330 a1 a2 bt333.1 bt333.2 true)))
theorem withylaw04_KeyBack.mono_l : ∀ k, (∀ y0 y1 y2 y3 y4 y5, LeO (withylaw04_KeyBack.j0 k y0 y1 y2 y3 y4 y5) (withylaw04_KeyBack.j0 (k + 1) y0 y1 y2 y3 y4 y5))
 | 0 => fun _ _ _ _ _ _ r h => by simp [withylaw04_KeyBack.j0] at h
 | k + 1 => by
  have ih0 := withylaw04_KeyBack.mono_l k
  ·intro y0 y1 y2 y3 y4 y5
   unfold withylaw04_KeyBack.j0
   repeat' first
   | (with_reducible exact ih0 _ _ _ _ _ _)
   | (with_reducible exact key_Get.mono _ _)
   | (with_reducible exact key_Put.mono _ _)
   | (with_reducible exact withylaw04_Cut.mono _ _)
   | (with_reducible exact withylaw04_Ref.mono _ _)
   | (with_reducible exact withylaw04_fixed.mono _)
   | (with_reducible exact withylaw04_right.mono _ _)
   | (with_reducible exact withyref04_Same.mono _ _ _)
   | (with_reducible exact LeO.refl _)
   | (with_reducible exact LeO.none _)
   | (with_reducible refine LeO.ite ?_ ?_)
   | (with_reducible refine LeO.bind ?_ (fun _ => ?_))
   | exact ih0 _ _ _ _ _ _
   | exact key_Get.mono _ _
   | exact key_Put.mono _ _
   | exact withylaw04_Cut.mono _ _
   | exact withylaw04_Ref.mono _ _
   | exact withylaw04_fixed.mono _
   | exact withylaw04_right.mono _ _
   | exact withyref04_Same.mono _ _ _
   | exact LeO.none _
   | refine LeO.ite ?_ ?_
   | refine LeO.bind ?_ (fun _ => ?_)
theorem withylaw04_KeyBack.mono : ∀ a0 a1 a2 k, LeO (withylaw04_KeyBack.f k a0 a1 a2) (withylaw04_KeyBack.f (k + 1) a0 a1 a2) := by
 intro a0 a1 a2 k
 have ih0 := withylaw04_KeyBack.mono_l k
 unfold withylaw04_KeyBack.f
 repeat' first
   | (with_reducible exact ih0 _ _ _ _ _ _)
   | (with_reducible exact key_Get.mono _ _)
   | (with_reducible exact key_Put.mono _ _)
   | (with_reducible exact withylaw04_Cut.mono _ _)
   | (with_reducible exact withylaw04_Ref.mono _ _)
   | (with_reducible exact withylaw04_fixed.mono _)
   | (with_reducible exact withylaw04_right.mono _ _)
   | (with_reducible exact withyref04_Same.mono _ _ _)
   | (with_reducible exact LeO.refl _)
   | (with_reducible exact LeO.none _)
   | (with_reducible refine LeO.ite ?_ ?_)
   | (with_reducible refine LeO.bind ?_ (fun _ => ?_))
   | exact ih0 _ _ _ _ _ _
   | exact key_Get.mono _ _
   | exact key_Put.mono _ _
   | exact withylaw04_Cut.mono _ _
   | exact withylaw04_Ref.mono _ _
   | exact withylaw04_fixed.mono _
   | exact withylaw04_right.mono _ _
   | exact withyref04_Same.mono _ _ _
   | exact LeO.none _
   | refine LeO.ite ?_ ?_
   | refine LeO.bind ?_ (fun _ => ?_)
set_option maxHeartbeats 8000000 in
set_option maxRecDepth 100000 in
theorem withylaw04_KeyBack.calls (k : Nat) (A0 : Option Addr) (c0 : Nat) (l0 : List (S51)) (a1 : Int) (a2 : Int) (r : Bool) (w : World) (hr0 : Kd.C k51 w A0 l0.length l0) (hc0 : l0.length ≤ c0) (h : withylaw04_KeyBack.f k l0 a1 a2 = some r) :
  Calls Tryd.prog 5 #[.slice A0 l0.length c0, .int .u8 a1, .int .u8 a2] w fun e w' => e = .returned (.bool r) ∧ Below w.heap.size w w' := by
 have HR0 := Aside0.mk hr0
 have HC0 := Aside0.mk hc0
 clear hr0 hc0
 have HB := as_ (Below.refl w.heap.size w)
 have H : ((withylaw04_Cut.f k l0).bind fun t330 => ((key_Put.f k t330).bind fun bt333 => (if bt333.2 = 0 then (withylaw04_KeyBack.j0 k t330 a1 a2 bt333.1 bt333.2 ((bt333.1.size : Int) == 0)) else (withylaw04_KeyBack.j0 k t330 a1 a2 bt333.1 bt333.2 true)))) = some r := h
 clear h
 replace H := bM H
 obtain ⟨t330, A40, H⟩ := H
 replace H : ((key_Put.f k t330).bind fun bt333 => (if bt333.2 = 0 then (withylaw04_KeyBack.j0 k t330 a1 a2 bt333.1 bt333.2 ((bt333.1.size : Int) == 0)) else (withylaw04_KeyBack.j0 k t330 a1 a2 bt333.1 bt333.2 true))) = some r := H
 have A4 := Aside0.mk A40
 clear A40
 replace H := bM H
 obtain ⟨⟨t333, t334⟩, A50, H⟩ := H
 replace H : (if t334 = 0 then (withylaw04_KeyBack.j0 k t330 a1 a2 t333 t334 ((t333.size : Int) == 0)) else (withylaw04_KeyBack.j0 k t330 a1 a2 t333 t334 true)) = some r := H
 have A5 := Aside0.mk A50
 clear A50
 have HC6 := Aside0.mk H
 clear H
 go_enter Tryd.func5, Tryd.ntmps5
 go_upto_region 3 with (first | ((with_reducible refine gate_callee (f := 9) rfl ?_); refine goesL_ (some 16) rfl rfl Tryd.func9 (by kernel_rfl) rfl #[.slice A0 l0.length c0] rfl aO ?_; (with_reducible refine (withylaw04_Cut.calls k _ _ l0 t330 _ ?side1 ?side2 A4.out).mono ?_); (case side1 => repeat (first | exact HR0.out | (with_reducible refine Kd.C_alloc ?_ _) | (with_reducible refine Kd.C_drewN ?_ _) | (with_reducible refine Kd.C_drew ?_))); (case side2 => exact HC0.out); rintro e w7 ⟨v331, rfl, ho0, hb⟩; refine ⟨_, rfl, ?_⟩; have HO332 := as_ (Kd.R_lower ho0 (below_size bA)); replace HB := as_ (below_step bA hb); (try clear hb); (try clear hb2); (try clear hk); (try clear hi); (try clear ho0); obtain ⟨Ao8, co8, eo8⟩ := Kd.R_slice HO332.out; subst eo8) | ((with_reducible refine gate_callee (f := 10) rfl ?_); refine goesL_ (some 19) rfl rfl Tryd.func10 (by kernel_rfl) rfl #[.slice Ao8 t330.length co8] rfl aO ?_; (with_reducible refine (key_Put.calls k _ _ t330 t333 t334 _ ?side1 ?side2 A5.out).mono ?_); (case side1 => repeat (first | exact (Kd.R_reads' HO332.out).2.2 | (with_reducible refine Kd.C_alloc ?_ _) | (with_reducible refine Kd.C_drewN ?_ _) | (with_reducible refine Kd.C_drew ?_))); (case side2 => exact (Kd.R_reads' HO332.out).2.1); rintro e w9 ⟨rfl, hb⟩; refine ⟨_, rfl, ?_⟩; replace HO332 := as_ (Kd.R_below (by (with_reducible repeat (first | apply Kd.R_alloc | apply Kd.R_drewN | apply Kd.R_drew)); exact HO332.out) hb); replace HB := as_ (below_step bA hb); (try clear hb); (try clear hb2); (try clear hk); (try clear hi)))
 (try simp only [Act.put, List.setIfInBounds_toArray, List.set_cons_zero, List.set_cons_succ])
 go_cut [28] (fun v28 wc => ∃ (kq : Nat) (x28_5 : Bool), v28 = .bool x28_5 ∧ Aside0 (withylaw04_KeyBack.j0 kq t330 a1 a2 t333 t334 x28_5 = some r) ∧ Aside0 (kq ≤ k) ∧ Aside0 (Kd.R k51 51 wc w.heap.size (fun _ => True) (.slice Ao8 t330.length co8) t330) ∧ Aside0 (Below w.heap.size w wc))
 case first =>
  have H := HC6.out
  clear HC6
  by_cases c10 : t334 = 0
  rotate_left
  ·rw [if_neg c10] at H
   have c10b0 : (t334 == 0) = false := beq_eq_false_iff_ne.mpr c10
   have c10b1 : (t334 != 0) = true := bne_iff_ne.mpr c10
   (first | rw [c10b0] | (simp only [i64_w, i32_w]; rw [c10b0]) | rw [c10b1] | skip)
   have H' := Aside0.mk H
   clear H
   go_wp2
   go_meet
   case rel => exact ⟨_, (true), (by first | rfl | (simp; done) | (simp [*]; done)), H', ⟨by first | omega | exact Nat.le_refl _⟩, ⟨by (with_reducible repeat (first | apply Kd.R_alloc | apply Kd.R_drewN | apply Kd.R_drew)); exact HO332.out⟩, ⟨by repeat (first | (with_reducible first | exact HB.out | apply below_alloc | apply pw_below_drewN | apply below_drew1) | exact HB.out)⟩⟩
  rw [if_pos c10] at H
  have c10b0 : (t334 == 0) = true := beq_iff_eq.mpr c10
  have c10b1 : (t334 != 0) = false := bne_eq_false_iff_eq.mpr c10
  clear c10
  (first | rw [c10b0] | (simp only [i64_w, i32_w]; rw [c10b0]) | rw [c10b1] | skip)
  have H' := Aside0.mk H
  clear H
  go_wp2
  go_meet
  case rel => exact ⟨_, (((t333.size : Int) == 0)), (by first | rfl | (simp; done) | (simp [*]; done)), H', ⟨by first | omega | exact Nat.le_refl _⟩, ⟨by (with_reducible repeat (first | apply Kd.R_alloc | apply Kd.R_drewN | apply Kd.R_drew)); exact HO332.out⟩, ⟨by repeat (first | (with_reducible first | exact HB.out | apply below_alloc | apply pw_below_drewN | apply below_drew1) | exact HB.out)⟩⟩
 case rest =>
  clear HC6
  try clear c1
  try clear p2
  try clear c5
  try clear c9
  try clear c10
  try clear c10b0
  try clear c10b1
  obtain ⟨kq, x28_5, rfl, HA, HJ5, HO_0, HB⟩ := hcut
  cases kq with
  | zero => exact absurd HA.out (by simp [withylaw04_KeyBack.j0])
  | succ kj5 =>
   have H := HA.out
   clear HA
   simp only [withylaw04_KeyBack.j0] at H
   by_cases c11 : x28_5 = true
   ·subst c11
    have H1 : (if t334 = 3 then (if t333.toList = ([] : List UInt8) then ((withylaw04_right.f kj5 t330).bind fun t335 => (if t335 = true then (none) else ((withylaw04_fixed.f kj5).bind fun t336 => (some t336)))) else (none)) else (none)) = some r := by rw [if_pos rfl] at H; exact H
    clear H
    have H := H1
    clear H1
    by_cases c12 : t334 = 3
    rotate_left
    ·rw [if_neg c12] at H
     exact absurd H (by simp)
    rw [if_pos c12] at H
    have c12b0 : (t334 == 3) = true := beq_iff_eq.mpr c12
    have c12b1 : (t334 != 3) = false := bne_eq_false_iff_eq.mpr c12
    clear c12
    by_cases c13 : t333.toList = ([] : List UInt8)
    rotate_left
    ·rw [if_neg c13] at H
     exact absurd H (by simp)
    rw [if_pos c13] at H
    have c13b0 : (t333.toList == ([] : List UInt8)) = true := beq_iff_eq.mpr c13
    have c13b1 : (t333.toList != ([] : List UInt8)) = false := bne_eq_false_iff_eq.mpr c13
    clear c13
    replace H := bM H
    obtain ⟨t335, A140, H⟩ := H
    replace H : (if t335 = true then (none) else ((withylaw04_fixed.f kj5).bind fun t336 => (some t336))) = some r := H
    have A14 := Aside0.mk A140
    clear A140
    by_cases c15 : t335 = true
    ·subst c15
     have H1 : (none) = some r := by rw [if_pos rfl] at H; exact H
     clear H
     have H := H1
     clear H1
     exact absurd H (by simp)
    replace c15 := Bool.eq_false_iff.mpr c15
    subst c15
    have H1 : ((withylaw04_fixed.f kj5).bind fun t336 => (some t336)) = some r := by rw [if_neg (show ¬ (false = true) by decide)] at H; exact H
    clear H
    have H := H1
    clear H1
    replace H := bM H
    obtain ⟨t336, A160, H⟩ := H
    replace H : (some t336) = some r := H
    have A16 := Aside0.mk A160
    clear A160
    obtain rfl := Option.some.inj H
    go_wp2_with (first | (go_at_call 17; (with_reducible refine (withylaw04_right.calls kj5 _ _ t330 false _ ?side1 ?side2 A14.out).mono ?_); (case side1 => repeat (first | exact (Kd.R_reads' HO_0.out).2.2 | (with_reducible refine Kd.C_alloc ?_ _) | (with_reducible refine Kd.C_drewN ?_ _) | (with_reducible refine Kd.C_drew ?_))); (case side2 => exact (Kd.R_reads' HO_0.out).2.1); rintro e w17 ⟨rfl, hb⟩; replace HO_0 := as_ (Kd.R_below (by (with_reducible repeat (first | apply Kd.R_alloc | apply Kd.R_drewN | apply Kd.R_drew)); exact HO_0.out) hb); replace HB := as_ (below_step bA hb); (try clear hb); (try clear hb2); (try clear hk); (try clear hi)) | (go_at_call 21; (with_reducible refine (withylaw04_fixed.calls kj5  t336 _ A16.out).mono ?_); rintro e w18 ⟨rfl, hb⟩; replace HO_0 := as_ (Kd.R_below (by (with_reducible repeat (first | apply Kd.R_alloc | apply Kd.R_drewN | apply Kd.R_drew)); exact HO_0.out) hb); replace HB := as_ (below_step bA hb); (try clear hb); (try clear hb2); (try clear hk); (try clear hi)))
    go_ret
    exact ⟨eW, by repeat (first | (with_reducible first | exact HB.out | apply below_alloc | apply pw_below_drewN | apply below_drew1) | exact HB.out)⟩
   replace c11 := Bool.eq_false_iff.mpr c11
   subst c11
   have H1 : ((key_Get.f kj5 t333).bind fun bt337 => (if (t333.size : Int) = 0 then (none) else (if 0 ≤ (Int.tmod (wrap64 (a1)) (t333.size : Int)) then (if (Int.tmod (wrap64 (a1)) (t333.size : Int)) ≤ (t333.size : Int) then ((key_Get.f kj5 (t333.extract 0 ((Int.tmod (wrap64 (a1)) (t333.size : Int)) : Int).toNat)).bind fun bt341 => ((some (([a2] : List Int) : List Int)).bind fun y345 => (if t333.size + (strOfNums y345).size ≤ 9223372036854775807 then ((key_Get.f kj5 (t333 ++ (strOfNums y345))).bind fun bt348 => ((withylaw04_Ref.f kj5 bt337.1).bind fun t352 => ((withylaw04_Ref.f kj5 t330).bind fun t355 => ((withyref04_Same.f kj5 t352 t355).bind fun t358 => (if t358 = true then (if bt337.2 = 0 then (if bt341.2 = 7 then (if bt348.2 = 3 then ((withylaw04_fixed.f kj5).bind fun t359 => (some t359)) else (none)) else (none)) else (none)) else (none)))))) else (none)))) else (none)) else (none)))) = some r := by rw [if_neg (show ¬ (false = true) by decide)] at H; exact H
   clear H
   have H := H1
   clear H1
   replace H := bM H
   obtain ⟨⟨t337, t338⟩, A190, H⟩ := H
   replace H : (if (t333.size : Int) = 0 then (none) else (if 0 ≤ (Int.tmod (wrap64 (a1)) (t333.size : Int)) then (if (Int.tmod (wrap64 (a1)) (t333.size : Int)) ≤ (t333.size : Int) then ((key_Get.f kj5 (t333.extract 0 ((Int.tmod (wrap64 (a1)) (t333.size : Int)) : Int).toNat)).bind fun bt341 => ((some (([a2] : List Int) : List Int)).bind fun y345 => (if t333.size + (strOfNums y345).size ≤ 9223372036854775807 then ((key_Get.f kj5 (t333 ++ (strOfNums y345))).bind fun bt348 => ((withylaw04_Ref.f kj5 t337).bind fun t352 => ((withylaw04_Ref.f kj5 t330).bind fun t355 => ((withyref04_Same.f kj5 t352 t355).bind fun t358 => (if t358 = true then (if t338 = 0 then (if bt341.2 = 7 then (if bt348.2 = 3 then ((withylaw04_fixed.f kj5).bind fun t359 => (some t359)) else (none)) else (none)) else (none)) else (none)))))) else (none)))) else (none)) else (none))) = some r := H
   have A19 := Aside0.mk A190
   clear A190
   by_cases c20 : (t333.size : Int) = 0
   ·rw [if_pos c20] at H
    exact absurd H (by simp)
   rw [if_neg c20] at H
   have c20b0 : ((t333.size : Int) == 0) = false := beq_eq_false_iff_ne.mpr c20
   have c20b1 : ((t333.size : Int) != 0) = true := bne_iff_ne.mpr c20
   obtain ⟨ji21, hji21⟩ : ∃ j_ : Int, (Int.tmod (wrap64 (a1)) (t333.size : Int)) = j_ := ⟨_, rfl⟩
   replace H : (if 0 ≤ (ji21) then (if (ji21) ≤ (t333.size : Int) then ((key_Get.f kj5 (t333.extract 0 ((ji21) : Int).toNat)).bind fun bt341 => ((some (([a2] : List Int) : List Int)).bind fun y345 => (if t333.size + (strOfNums y345).size ≤ 9223372036854775807 then ((key_Get.f kj5 (t333 ++ (strOfNums y345))).bind fun bt348 => ((withylaw04_Ref.f kj5 t337).bind fun t352 => ((withylaw04_Ref.f kj5 t330).bind fun t355 => ((withyref04_Same.f kj5 t352 t355).bind fun t358 => (if t358 = true then (if t338 = 0 then (if bt341.2 = 7 then (if bt348.2 = 3 then ((withylaw04_fixed.f kj5).bind fun t359 => (some t359)) else (none)) else (none)) else (none)) else (none)))))) else (none)))) else (none)) else (none)) = some r := by first | (rw [hji21] at H; exact H) | (simp only [hji21] at H ⊢; exact H)
   (try rw [hji21] at A19)
   by_cases c22 : 0 ≤ (ji21)
   rotate_left
   ·rw [if_neg c22] at H
    exact absurd H (by simp)
 
   rw [if_pos c22] at H
   have c22b0 := eq_true c22
   have c22b1 : decide (0 ≤ (ji21)) = true := decide_eq_true c22
   clear c22
   by_cases c23 : (ji21) ≤ (t333.size : Int)
   rotate_left
   ·rw [if_neg c23] at H
    exact absurd H (by simp)
   rw [if_pos c23] at H
   have c23b0 := eq_true c23
   have c23b1 : decide ((ji21) ≤ (t333.size : Int)) = true := decide_eq_true c23
   clear c23
   obtain ⟨js24, hjs24⟩ : ∃ j_ : ByteArray, (t333.extract 0 ((ji21) : Int).toNat) = j_ := ⟨_, rfl⟩
   replace H : ((key_Get.f kj5 (js24)).bind fun bt341 => ((some (([a2] : List Int) : List Int)).bind fun y345 => (if t333.size + (strOfNums y345).size ≤ 9223372036854775807 then ((key_Get.f kj5 (t333 ++ (strOfNums y345))).bind fun bt348 => ((withylaw04_Ref.f kj5 t337).bind fun t352 => ((withylaw04_Ref.f kj5 t330).bind fun t355 => ((withyref04_Same.f kj5 t352 t355).bind fun t358 => (if t358 = true then (if t338 = 0 then (if bt341.2 = 7 then (if bt348.2 = 3 then ((withylaw04_fixed.f kj5).bind fun t359 => (some t359)) else (none)) else (none)) else (none)) else (none)))))) else (none)))) = some r := by first | (rw [hjs24] at H; exact H) | (simp only [hjs24] at H ⊢; exact H)
   (try rw [hjs24] at A19)
   replace H := bM H
   obtain ⟨⟨t341, t342⟩, A250, H⟩ := H
   replace H : ((some (([a2] : List Int) : List Int)).bind fun y345 => (if t333.size + (strOfNums y345).size ≤ 9223372036854775807 then ((key_Get.f kj5 (t333 ++ (strOfNums y345))).bind fun bt348 => ((withylaw04_Ref.f kj5 t337).bind fun t352 => ((withylaw04_Ref.f kj5 t330).bind fun t355 => ((withyref04_Same.f kj5 t352 t355).bind fun t358 => (if t358 = true then (if t338 = 0 then (if t342 = 7 then (if bt348.2 = 3 then ((withylaw04_fixed.f kj5).bind fun t359 => (some t359)) else (none)) else (none)) else (none)) else (none)))))) else (none))) = some r := H
   have A25 := Aside0.mk A250
   clear A250
   obtain ⟨y345, hy345⟩ : ∃ y_ : List Int, y_ = (([a2] : List Int)) := ⟨_, rfl⟩
   replace H : (if t333.size + (strOfNums y345).size ≤ 9223372036854775807 then ((key_Get.f kj5 (t333 ++ (strOfNums y345))).bind fun bt348 => ((withylaw04_Ref.f kj5 t337).bind fun t352 => ((withylaw04_Ref.f kj5 t330).bind fun t355 => ((withyref04_Same.f kj5 t352 t355).bind fun t358 => (if t358 = true then (if t338 = 0 then (if t342 = 7 then (if bt348.2 = 3 then ((withylaw04_fixed.f kj5).bind fun t359 => (some t359)) else (none)) else (none)) else (none)) else (none)))))) else (none)) = some r := by first | (rw [hy345]; with_reducible exact H) | (have H2_ := (Option.bind_some _ _).symm.trans H; rw [hy345]; with_reducible exact H2_) | (have H2_ := (Option.bind_some _ _).symm.trans H; with_reducible exact H2_) | with_reducible exact H | (rw [hy345]; exact H) | exact H
   have Ny345 := Aside0.mk hy345
   clear hy345
   by_cases c26 : t333.size + (strOfNums y345).size ≤ 9223372036854775807
   rotate_left
   ·rw [if_neg c26] at H
    exact absurd H (by simp)
   rw [if_pos c26] at H
   have c26b0 := eq_true c26
   have c26b1 : decide (t333.size + (strOfNums y345).size ≤ 9223372036854775807) = true := decide_eq_true c26
   try have c26b2 : (9223372036854775807 < t333.size + (strOfNums y345).size) = False := eq_false (Nat.not_lt.2 c26)
   obtain ⟨js27, hjs27⟩ : ∃ j_ : ByteArray, (t333 ++ (strOfNums y345)) = j_ := ⟨_, rfl⟩
   replace H : ((key_Get.f kj5 (js27)).bind fun bt348 => ((withylaw04_Ref.f kj5 t337).bind fun t352 => ((withylaw04_Ref.f kj5 t330).bind fun t355 => ((withyref04_Same.f kj5 t352 t355).bind fun t358 => (if t358 = true then (if t338 = 0 then (if t342 = 7 then (if bt348.2 = 3 then ((withylaw04_fixed.f kj5).bind fun t359 => (some t359)) else (none)) else (none)) else (none)) else (none)))))) = some r := by first | (rw [hjs27] at H; exact H) | (simp only [hjs27] at H ⊢; exact H)
   (try rw [hjs27] at A19)
   (try rw [hjs27] at A25)
   replace H := bM H
   obtain ⟨⟨t348, t349⟩, A280, H⟩ := H
   replace H : ((withylaw04_Ref.f kj5 t337).bind fun t352 => ((withylaw04_Ref.f kj5 t330).bind fun t355 => ((withyref04_Same.f kj5 t352 t355).bind fun t358 => (if t358 = true then (if t338 = 0 then (if t342 = 7 then (if t349 = 3 then ((withylaw04_fixed.f kj5).bind fun t359 => (some t359)) else (none)) else (none)) else (none)) else (none))))) = some r := H
   have A28 := Aside0.mk A280
   clear A280
   replace H := bM H
   obtain ⟨t352, A290, H⟩ := H
   replace H : ((withylaw04_Ref.f kj5 t330).bind fun t355 => ((withyref04_Same.f kj5 t352 t355).bind fun t358 => (if t358 = true then (if t338 = 0 then (if t342 = 7 then (if t349 = 3 then ((withylaw04_fixed.f kj5).bind fun t359 => (some t359)) else (none)) else (none)) else (none)) else (none)))) = some r := H
   have A29 := Aside0.mk A290
   clear A290
   replace H := bM H
   obtain ⟨t355, A300, H⟩ := H
   replace H : ((withyref04_Same.f kj5 t352 t355).bind fun t358 => (if t358 = true then (if t338 = 0 then (if t342 = 7 then (if t349 = 3 then ((withylaw04_fixed.f kj5).bind fun t359 => (some t359)) else (none)) else (none)) else (none)) else (none))) = some r := H
   have A30 := Aside0.mk A300
   clear A300
   replace H := bM H
   obtain ⟨t358, A310, H⟩ := H
   replace H : (if t358 = true then (if t338 = 0 then (if t342 = 7 then (if t349 = 3 then ((withylaw04_fixed.f kj5).bind fun t359 => (some t359)) else (none)) else (none)) else (none)) else (none)) = some r := H
   have A31 := Aside0.mk A310
   clear A310
   by_cases c32 : t358 = true
   rotate_left
   ·replace c32 := Bool.eq_false_iff.mpr c32
    subst c32
    have H1 : (none) = some r := by rw [if_neg (show ¬ (false = true) by decide)] at H; exact H
    clear H
    have H := H1
    clear H1
    exact absurd H (by simp)
   subst c32
   have H1 : (if t338 = 0 then (if t342 = 7 then (if t349 = 3 then ((withylaw04_fixed.f kj5).bind fun t359 => (some t359)) else (none)) else (none)) else (none)) = some r := by rw [if_pos rfl] at H; exact H
   clear H
   have H := H1
   clear H1
   by_cases c33 : t338 = 0
   rotate_left
   ·rw [if_neg c33] at H
    exact absurd H (by simp)
   rw [if_pos c33] at H
   have c33b0 : (t338 == 0) = true := beq_iff_eq.mpr c33
   have c33b1 : (t338 != 0) = false := bne_eq_false_iff_eq.mpr c33
   clear c33
   by_cases c34 : t342 = 7
   rotate_left
   ·rw [if_neg c34] at H
    exact absurd H (by simp)
   rw [if_pos c34] at H
   have c34b0 : (t342 == 7) = true := beq_iff_eq.mpr c34
   have c34b1 : (t342 != 7) = false := bne_eq_false_iff_eq.mpr c34
   clear c34
   by_cases c35 : t349 = 3
   rotate_left
   ·rw [if_neg c35] at H
    exact absurd H (by simp)
   rw [if_pos c35] at H
   have c35b0 : (t349 == 3) = true := beq_iff_eq.mpr c35
   have c35b1 : (t349 != 3) = false := bne_eq_false_iff_eq.mpr c35
   clear c35
   replace H := bM H
   obtain ⟨t359, A360, H⟩ := H
   replace H : (some t359) = some r := H
   have A36 := Aside0.mk A360
   clear A360
   obtain rfl := Option.some.inj H
   go_wp2_with (first | ((with_reducible refine gate_callee (f := 13) rfl ?_); refine goesL_ (some 45) rfl rfl Tryd.func13 (by kernel_rfl) rfl #[.string t333] rfl aO ?_; (with_reducible refine (key_Get.calls kj5 t333 t337 t338 _ A19.out).mono ?_); rintro e w37 ⟨v339, rfl, ho0, hb⟩; refine ⟨_, rfl, ?_⟩; have HO340 := as_ (Kd.R_lower (Kd.R_new' ho0 (Kd.R_lt (by (with_reducible repeat (first | apply Kd.R_alloc | apply Kd.R_drewN | apply Kd.R_drew)); exact HO_0.out))) (below_size bA)); replace HO_0 := as_ (Kd.R_elder' (by (with_reducible repeat (first | apply Kd.R_alloc | apply Kd.R_drewN | apply Kd.R_drew)); exact HO_0.out) (Kd.R_base ho0) hb); replace HB := as_ (below_step bA hb); (try clear hb); (try clear hb2); (try clear hk); (try clear hi); (try clear ho0)) | ((with_reducible refine gate_callee (f := 13) rfl ?_); refine goesL_ (some 56) rfl rfl Tryd.func13 (by kernel_rfl) rfl #[.string js24] rfl aO ?_; (with_reducible refine (key_Get.calls kj5 js24 t341 t342 _ A25.out).mono ?_); rintro e w38 ⟨v343, rfl, ho0, hb⟩; refine ⟨_, rfl, ?_⟩; have HO344 := as_ (Kd.R_lower (Kd.R_new' (Kd.R_new' ho0 (Kd.R_lt (by (with_reducible repeat (first | apply Kd.R_alloc | apply Kd.R_drewN | apply Kd.R_drew)); exact HO_0.out))) (Kd.R_lt (by (with_reducible repeat (first | apply Kd.R_alloc | apply Kd.R_drewN | apply Kd.R_drew)); exact HO340.out))) (below_size bA)); replace HO_0 := as_ (Kd.R_elder' (by (with_reducible repeat (first | apply Kd.R_alloc | apply Kd.R_drewN | apply Kd.R_drew)); exact HO_0.out) (Kd.R_base ho0) hb); replace HO340 := as_ (Kd.R_elder' (by (with_reducible repeat (first | apply Kd.R_alloc | apply Kd.R_drewN | apply Kd.R_drew)); exact HO340.out) (Kd.R_base ho0) hb); replace HB := as_ (below_step bA hb); (try clear hb); (try clear hb2); (try clear hk); (try clear hi); (try clear ho0)) | ((with_reducible refine gate_dst (N := 62) rfl ?_); (try (refine gate_guard (by rfl) ?_; dsimp only)); refine Kd.R_lit (Kd.int .u8) _ 5 ?hg (N := 62) ?hd (xs := ([a2] : List Int)) (inner := [.int .u8 a2]) (ok := fun _ => True) (okp := fun _ => True) ?hr ?hp (fun _ hk => hk) trivial (Below.refl _ _) (Nat.le_refl _) (by simp) ?_; (case hd => rfl); (case hg => rfl); (case hr => first | (go_simp; done) | (go_simp; rfl)); (case hp => exact (Reps.one (show Kd.M (Kd.int .u8) _ _ _ a2 [.int .u8 a2] from rfl) (Reps.none _ _))); intro v346 w39 ho40 hb hg_ hnew_; clear hg_ hnew_; (first | rw [← Ny345.out] at ho40 | (simp only [Int.reduceToNat] at ho40; rw [← Ny345.out] at ho40)); have HO347 := as_ (Kd.R_lower ho40 (below_size bA)); replace HO_0 := as_ (Kd.R_below (by (with_reducible repeat (first | apply Kd.R_alloc | apply Kd.R_drewN | apply Kd.R_drew)); exact HO_0.out) hb); replace HO340 := as_ (Kd.R_below (by (with_reducible repeat (first | apply Kd.R_alloc | apply Kd.R_drewN | apply Kd.R_drew)); exact HO340.out) hb); replace HO344 := as_ (Kd.R_below (by (with_reducible repeat (first | apply Kd.R_alloc | apply Kd.R_drewN | apply Kd.R_drew)); exact HO344.out) hb); replace HB := as_ (below_step bA hb); clear hb ho40; have hcv41 := own_string (P := Tryd.prog) Tryd.underlying45 Tryd.underlying5 Tryd.underlying9 (Kd.own_of_R HO347.out)) | ((with_reducible refine gate_callee (f := 13) rfl ?_); refine goesL_ (some 65) rfl rfl Tryd.func13 (by kernel_rfl) rfl #[.string js27] rfl aO ?_; (with_reducible refine (key_Get.calls kj5 js27 t348 t349 _ A28.out).mono ?_); rintro e w42 ⟨v350, rfl, ho0, hb⟩; refine ⟨_, rfl, ?_⟩; have HO351 := as_ (Kd.R_lower (Kd.R_new' (Kd.R_new' (Kd.R_new' ho0 (Kd.R_lt (by (with_reducible repeat (first | apply Kd.R_alloc | apply Kd.R_drewN | apply Kd.R_drew)); exact HO_0.out))) (Kd.R_lt (by (with_reducible repeat (first | apply Kd.R_alloc | apply Kd.R_drewN | apply Kd.R_drew)); exact HO340.out))) (Kd.R_lt (by (with_reducible repeat (first | apply Kd.R_alloc | apply Kd.R_drewN | apply Kd.R_drew)); exact HO344.out))) (below_size bA)); replace HO_0 := as_ (Kd.R_elder' (by (with_reducible repeat (first | apply Kd.R_alloc | apply Kd.R_drewN | apply Kd.R_drew)); exact HO_0.out) (Kd.R_base ho0) hb); replace HO340 := as_ (Kd.R_elder' (by (with_reducible repeat (first | apply Kd.R_alloc | apply Kd.R_drewN | apply Kd.R_drew)); exact HO340.out) (Kd.R_base ho0) hb); replace HO344 := as_ (Kd.R_elder' (by (with_reducible repeat (first | apply Kd.R_alloc | apply Kd.R_drewN | apply Kd.R_drew)); exact HO344.out) (Kd.R_base ho0) hb); replace HO347 := as_ (Kd.R_below (by (with_reducible repeat (first | apply Kd.R_alloc | apply Kd.R_drewN | apply Kd.R_drew)); exact HO347.out) hb); replace HB := as_ (below_step bA hb); (try clear hb); (try clear hb2); (try clear hk); (try clear hi); (try clear ho0); obtain ⟨Ao43, co43, eo43⟩ := Kd.R_slice HO340.out; subst eo43) | ((with_reducible refine gate_callee (f := 12) rfl ?_); refine goesL_ (some 69) rfl rfl Tryd.func12 (by kernel_rfl) rfl #[.slice Ao43 t337.length co43] rfl aO ?_; (with_reducible refine (withylaw04_Ref.calls kj5 _ _ t337 t352 _ ?side1 ?side2 A29.out).mono ?_); (case side1 => repeat (first | exact (Kd.R_reads' HO340.out).2.2 | (with_reducible refine Kd.C_alloc ?_ _) | (with_reducible refine Kd.C_drewN ?_ _) | (with_reducible refine Kd.C_drew ?_))); (case side2 => exact (Kd.R_reads' HO340.out).2.1); rintro e w44 ⟨v353, rfl, ho0, hb⟩; clear A29; refine ⟨_, rfl, ?_⟩; have HO354 := as_ (Kd.R_lower ho0 (below_size bA)); replace HO_0 := as_ (Kd.R_below (by (with_reducible repeat (first | apply Kd.R_alloc | apply Kd.R_drewN | apply Kd.R_drew)); exact HO_0.out) hb); replace HO340 := as_ (Kd.R_below (by (with_reducible repeat (first | apply Kd.R_alloc | apply Kd.R_drewN | apply Kd.R_drew)); exact HO340.out) hb); replace HO344 := as_ (Kd.R_below (by (with_reducible repeat (first | apply Kd.R_alloc | apply Kd.R_drewN | apply Kd.R_drew)); exact HO344.out) hb); replace HO347 := as_ (Kd.R_below (by (with_reducible repeat (first | apply Kd.R_alloc | apply Kd.R_drewN | apply Kd.R_drew)); exact HO347.out) hb); replace HO351 := as_ (Kd.R_below (by (with_reducible repeat (first | apply Kd.R_alloc | apply Kd.R_drewN | apply Kd.R_drew)); exact HO351.out) hb); replace HB := as_ (below_step bA hb); (try clear hb); (try clear hb2); (try clear hk); (try clear hi); (try clear ho0)) | ((with_reducible refine gate_callee (f := 12) rfl ?_); refine goesL_ (some 71) rfl rfl Tryd.func12 (by kernel_rfl) rfl #[.slice Ao8 t330.length co8] rfl aO ?_; (with_reducible refine (withylaw04_Ref.calls kj5 _ _ t330 t355 _ ?side1 ?side2 A30.out).mono ?_); (case side1 => repeat (first | exact (Kd.R_reads' HO_0.out).2.2 | (with_reducible refine Kd.C_alloc ?_ _) | (with_reducible refine Kd.C_drewN ?_ _) | (with_reducible refine Kd.C_drew ?_))); (case side2 => exact (Kd.R_reads' HO_0.out).2.1); rintro e w45 ⟨v356, rfl, ho0, hb⟩; clear A30; refine ⟨_, rfl, ?_⟩; have HO357 := as_ (Kd.R_lower (Kd.R_new' ho0 (Kd.R_lt (by (with_reducible repeat (first | apply Kd.R_alloc | apply Kd.R_drewN | apply Kd.R_drew)); exact HO354.out))) (below_size bA)); replace HO_0 := as_ (Kd.R_below (by (with_reducible repeat (first | apply Kd.R_alloc | apply Kd.R_drewN | apply Kd.R_drew)); exact HO_0.out) hb); replace HO340 := as_ (Kd.R_below (by (with_reducible repeat (first | apply Kd.R_alloc | apply Kd.R_drewN | apply Kd.R_drew)); exact HO340.out) hb); replace HO344 := as_ (Kd.R_below (by (with_reducible repeat (first | apply Kd.R_alloc | apply Kd.R_drewN | apply Kd.R_drew)); exact HO344.out) hb); replace HO347 := as_ (Kd.R_below (by (with_reducible repeat (first | apply Kd.R_alloc | apply Kd.R_drewN | apply Kd.R_drew)); exact HO347.out) hb); replace HO351 := as_ (Kd.R_below (by (with_reducible repeat (first | apply Kd.R_alloc | apply Kd.R_drewN | apply Kd.R_drew)); exact HO351.out) hb); replace HO354 := as_ (Kd.R_elder' (by (with_reducible repeat (first | apply Kd.R_alloc | apply Kd.R_drewN | apply Kd.R_drew)); exact HO354.out) (Kd.R_base ho0) hb); replace HB := as_ (below_step bA hb); (try clear hb); (try clear hb2); (try clear hk); (try clear hi); (try clear ho0); obtain ⟨Ao46, co46, eo46⟩ := Kd.R_slice HO354.out; subst eo46; obtain ⟨Ao47, co47, eo47⟩ := Kd.R_slice HO357.out; subst eo47) | ((with_reducible refine gate_callee (f := 20) rfl ?_); refine goesL_ (some 72) rfl rfl Tryd.func20 (by kernel_rfl) rfl #[.slice Ao46 t352.length co46, .slice Ao47 t355.length co47] rfl aO ?_; (with_reducible refine (withyref04_Same.calls kj5 _ _ t352 _ _ t355 true _ ?side1 ?side2 ?side3 ?side4 A31.out).mono ?_); (case side1 => repeat (first | exact (Kd.R_reads' HO354.out).2.2 | (with_reducible refine Kd.C_alloc ?_ _) | (with_reducible refine Kd.C_drewN ?_ _) | (with_reducible refine Kd.C_drew ?_))); (case side2 => exact (Kd.R_reads' HO354.out).2.1); (case side3 => repeat (first | exact (Kd.R_reads' HO357.out).2.2 | (with_reducible refine Kd.C_alloc ?_ _) | (with_reducible refine Kd.C_drewN ?_ _) | (with_reducible refine Kd.C_drew ?_))); (case side4 => exact (Kd.R_reads' HO357.out).2.1); rintro e w' ⟨rfl, ⟨nd, rfl⟩⟩; refine ⟨_, rfl, ?_⟩) | (go_at_call 21; (with_reducible refine (withylaw04_fixed.calls kj5  t359 _ A36.out).mono ?_); rintro e w48 ⟨rfl, hb⟩; replace HO_0 := as_ (Kd.R_below (by (with_reducible repeat (first | apply Kd.R_alloc | apply Kd.R_drewN | apply Kd.R_drew)); exact HO_0.out) hb); replace HO340 := as_ (Kd.R_below (by (with_reducible repeat (first | apply Kd.R_alloc | apply Kd.R_drewN | apply Kd.R_drew)); exact HO340.out) hb); replace HO344 := as_ (Kd.R_below (by (with_reducible repeat (first | apply Kd.R_alloc | apply Kd.R_drewN | apply Kd.R_drew)); exact HO344.out) hb); replace HO347 := as_ (Kd.R_below (by (with_reducible repeat (first | apply Kd.R_alloc | apply Kd.R_drewN | apply Kd.R_drew)); exact HO347.out) hb); replace HO351 := as_ (Kd.R_below (by (with_reducible repeat (first | apply Kd.R_alloc | apply Kd.R_drewN | apply Kd.R_drew)); exact HO351.out) hb); replace HO354 := as_ (Kd.R_below (by (with_reducible repeat (first | apply Kd.R_alloc | apply Kd.R_drewN | apply Kd.R_drew)); exact HO354.out) hb); replace HO357 := as_ (Kd.R_below (by (with_reducible repeat (first | apply Kd.R_alloc | apply Kd.R_drewN | apply Kd.R_drew)); exact HO357.out) hb); replace HB := as_ (below_step bA hb); (try clear hb); (try clear hb2); (try clear hk); (try clear hi)))
   go_ret
   exact ⟨by first | rfl | (simp [errW_none, errW_some] <;> rfl) | (simp only [← hji21, ← hjs24, ← hjs27]; first | rfl | (simp [errW_none, errW_some] <;> rfl)) | (simp [*, errW_none, errW_some] <;> rfl), by repeat (first | (with_reducible first | exact HB.out | apply below_alloc | apply pw_below_drewN | apply below_drew1) | exact HB.out)⟩
/-! ### withylaw04_KeyOnce: function 6 -/
def withylaw04_KeyOnce.f (k : Nat) (a0 : ByteArray) : Option (Bool) := if 0 ≤ (mn (a0.size : Int) 200) then (if (mn (a0.size : Int) 200) ≤ (a0.size : Int) then ((key_Get.f k (a0.extract 0 ((mn (a0.size : Int) 200) : Int).toNat)).bind fun bt360 => (if bt360.2 = 0 then ((key_Put.f k bt360.1).bind fun bt364 => (if bt364.2 = 0 then (if bt364.1.toList = (a0.extract 0 ((mn (a0.size : Int) 200) : Int).toNat).toList then ((withylaw04_right.f k bt360.1).bind fun t366 => (if t366 = true then ((withylaw04_fixed.f k).bind fun t367 => (some t367)) else (none))) else (none)) else (none))) else (if (bt360.1.length : Int) = 0 then ((withylaw04_fixed.f k).bind fun t368 => (some t368)) else (none)))) else (none)) else (none)
theorem withylaw04_KeyOnce.mono : ∀ a0 k, LeO (withylaw04_KeyOnce.f k a0) (withylaw04_KeyOnce.f (k + 1) a0) := by
 intro a0 k
 unfold withylaw04_KeyOnce.f
 repeat' first
   | (with_reducible exact key_Get.mono _ _)
   | (with_reducible exact key_Put.mono _ _)
   | (with_reducible exact withylaw04_fixed.mono _)
   | (with_reducible exact withylaw04_right.mono _ _)
   | (with_reducible exact LeO.refl _)
   | (with_reducible exact LeO.none _)
   | (with_reducible refine LeO.ite ?_ ?_)
   | (with_reducible refine LeO.bind ?_ (fun _ => ?_))
   | exact key_Get.mono _ _
   | exact key_Put.mono _ _
   | exact withylaw04_fixed.mono _
   | exact withylaw04_right.mono _ _
   | exact LeO.none _
   | refine LeO.ite ?_ ?_
   | refine LeO.bind ?_ (fun _ => ?_)
set_option maxHeartbeats 8000000 in
set_option maxRecDepth 100000 in
theorem withylaw04_KeyOnce.calls (k : Nat) (a0 : ByteArray) (r : Bool) (w : World) (h : withylaw04_KeyOnce.f k a0 = some r) :
  Calls Tryd.prog 6 #[.string a0] w fun e w' => e = .returned (.bool r) ∧ Below w.heap.size w w' := by
 have HB := as_ (Below.refl w.heap.size w)
 have H : (if 0 ≤ (mn (a0.size : Int) 200) then (if (mn (a0.size : Int) 200) ≤ (a0.size : Int) then ((key_Get.f k (a0.extract 0 ((mn (a0.size : Int) 200) : Int).toNat)).bind fun bt360 => (if bt360.2 = 0 then ((key_Put.f k bt360.1).bind fun bt364 => (if bt364.2 = 0 then (if bt364.1.toList = (a0.extract 0 ((mn (a0.size : Int) 200) : Int).toNat).toList then ((withylaw04_right.f k bt360.1).bind fun t366 => (if t366 = true then ((withylaw04_fixed.f k).bind fun t367 => (some t367)) else (none))) else (none)) else (none))) else (if (bt360.1.length : Int) = 0 then ((withylaw04_fixed.f k).bind fun t368 => (some t368)) else (none)))) else (none)) else (none)) = some r := h
 clear h
 obtain ⟨ji2, hji2⟩ : ∃ j_ : Int, (mn (a0.size : Int) 200) = j_ := ⟨_, rfl⟩
 replace H : (if 0 ≤ (ji2) then (if (ji2) ≤ (a0.size : Int) then ((key_Get.f k (a0.extract 0 ((ji2) : Int).toNat)).bind fun bt360 => (if bt360.2 = 0 then ((key_Put.f k bt360.1).bind fun bt364 => (if bt364.2 = 0 then (if bt364.1.toList = (a0.extract 0 ((ji2) : Int).toNat).toList then ((withylaw04_right.f k bt360.1).bind fun t366 => (if t366 = true then ((withylaw04_fixed.f k).bind fun t367 => (some t367)) else (none))) else (none)) else (none))) else (if (bt360.1.length : Int) = 0 then ((withylaw04_fixed.f k).bind fun t368 => (some t368)) else (none)))) else (none)) else (none)) = some r := by first | (rw [hji2] at H; exact H) | (simp only [hji2] at H ⊢; exact H)
 (try (have hji2h : ji2 ≤ 200 := by (rw [← hji2]; unfold mn; (repeat' split) <;> omega)))
 (try (have hji2g : ji2 ≤ 64 := by omega))
 (try (have hji2l : 0 ≤ ji2 := by (rw [← hji2]; unfold mn; (repeat' split) <;> omega)))
 (try (have hji2m : 0 ≤ ji2 := by omega))
 have hji2_ : (if 200 < (a0.size : Int) then 200 else (a0.size : Int)) = ji2 := hji2
 by_cases c3 : 0 ≤ (ji2)
 rotate_left
 ·rw [if_neg c3] at H
  exact absurd H (by simp)
 
 rw [if_pos c3] at H
 have c3b0 := eq_true c3
 have c3b1 : decide (0 ≤ (ji2)) = true := decide_eq_true c3
 clear c3
 by_cases c4 : (ji2) ≤ (a0.size : Int)
 rotate_left
 ·rw [if_neg c4] at H
  exact absurd H (by simp)
 rw [if_pos c4] at H
 have c4b0 := eq_true c4
 have c4b1 : decide ((ji2) ≤ (a0.size : Int)) = true := decide_eq_true c4
 clear c4
 obtain ⟨js5, hjs5⟩ : ∃ j_ : ByteArray, (a0.extract 0 ((ji2) : Int).toNat) = j_ := ⟨_, rfl⟩
 replace H : ((key_Get.f k (js5)).bind fun bt360 => (if bt360.2 = 0 then ((key_Put.f k bt360.1).bind fun bt364 => (if bt364.2 = 0 then (if bt364.1.toList = (js5).toList then ((withylaw04_right.f k bt360.1).bind fun t366 => (if t366 = true then ((withylaw04_fixed.f k).bind fun t367 => (some t367)) else (none))) else (none)) else (none))) else (if (bt360.1.length : Int) = 0 then ((withylaw04_fixed.f k).bind fun t368 => (some t368)) else (none)))) = some r := by first | (rw [hjs5] at H; exact H) | (simp only [hjs5] at H ⊢; exact H)
 replace H := bM H
 obtain ⟨⟨t360, t361⟩, A60, H⟩ := H
 replace H : (if t361 = 0 then ((key_Put.f k t360).bind fun bt364 => (if bt364.2 = 0 then (if bt364.1.toList = (js5).toList then ((withylaw04_right.f k t360).bind fun t366 => (if t366 = true then ((withylaw04_fixed.f k).bind fun t367 => (some t367)) else (none))) else (none)) else (none))) else (if (t360.length : Int) = 0 then ((withylaw04_fixed.f k).bind fun t368 => (some t368)) else (none))) = some r := H
 have A6 := Aside0.mk A60
 clear A60
 by_cases c7 : t361 = 0
 rotate_left
 ·rw [if_neg c7] at H
  have c7b0 : (t361 == 0) = false := beq_eq_false_iff_ne.mpr c7
  have c7b1 : (t361 != 0) = true := bne_iff_ne.mpr c7
  by_cases c19 : (t360.length : Int) = 0
  rotate_left
  ·rw [if_neg c19] at H
   exact absurd H (by simp)
  rw [if_pos c19] at H
  have c19b0 : ((t360.length : Int) == 0) = true := beq_iff_eq.mpr c19
  have c19b1 : ((t360.length : Int) != 0) = false := bne_eq_false_iff_eq.mpr c19
  clear c19
  replace H := bM H
  obtain ⟨t368, A200, H⟩ := H
  replace H : (some t368) = some r := H
  have A20 := Aside0.mk A200
  clear A200
  obtain rfl := Option.some.inj H
  go_enter Tryd.func6, Tryd.ntmps6
  go_wp2_with (first | ((with_reducible refine gate_callee (f := 13) rfl ?_); refine goesL_ (some 14) rfl rfl Tryd.func13 (by kernel_rfl) rfl #[.string js5] rfl aO ?_; (with_reducible refine (key_Get.calls k js5 t360 t361 _ A6.out).mono ?_); rintro e w21 ⟨v362, rfl, ho0, hb⟩; refine ⟨_, rfl, ?_⟩; have HO363 := as_ (Kd.R_lower ho0 (below_size bA)); replace HB := as_ (below_step bA hb); (try clear hb); (try clear hb2); (try clear hk); (try clear hi); (try clear ho0); obtain ⟨Ao22, co22, eo22⟩ := Kd.R_slice HO363.out; subst eo22) | (go_at_call 21; (with_reducible refine (withylaw04_fixed.calls k  t368 _ A20.out).mono ?_); rintro e w23 ⟨rfl, hb⟩; replace HO363 := as_ (Kd.R_below (by (with_reducible repeat (first | apply Kd.R_alloc | apply Kd.R_drewN | apply Kd.R_drew)); exact HO363.out) hb); replace HB := as_ (below_step bA hb); (try clear hb); (try clear hb2); (try clear hk); (try clear hi)))
  go_ret
  exact ⟨by first | rfl | (simp [errW_none, errW_some] <;> rfl) | (simp only [← hji2, ← hjs5]; first | rfl | (simp [errW_none, errW_some] <;> rfl)) | (simp [*, errW_none, errW_some] <;> rfl), by repeat (first | (with_reducible first | exact HB.out | apply below_alloc | apply pw_below_drewN | apply below_drew1) | exact HB.out)⟩
 rw [if_pos c7] at H
 have c7b0 : (t361 == 0) = true := beq_iff_eq.mpr c7
 have c7b1 : (t361 != 0) = false := bne_eq_false_iff_eq.mpr c7
 clear c7
 replace H := bM H
 obtain ⟨⟨t364, t365⟩, A80, H⟩ := H
 replace H : (if t365 = 0 then (if t364.toList = (js5).toList then ((withylaw04_right.f k t360).bind fun t366 => (if t366 = true then ((withylaw04_fixed.f k).bind fun t367 => (some t367)) else (none))) else (none)) else (none)) = some r := H
 have A8 := Aside0.mk A80
 clear A80
 by_cases c9 : t365 = 0
 rotate_left
 ·rw [if_neg c9] at H
  exact absurd H (by simp)
 rw [if_pos c9] at H
 have c9b0 : (t365 == 0) = true := beq_iff_eq.mpr c9
 have c9b1 : (t365 != 0) = false := bne_eq_false_iff_eq.mpr c9
 clear c9
 by_cases c10 : t364.toList = (js5).toList
 rotate_left
 ·rw [if_neg c10] at H
  exact absurd H (by simp)
 rw [if_pos c10] at H
 have c10b0 : (t364.toList == (js5).toList) = true := beq_iff_eq.mpr c10
 have c10b1 : (t364.toList != (js5).toList) = false := bne_eq_false_iff_eq.mpr c10
 clear c10
 replace H := bM H
 obtain ⟨t366, A110, H⟩ := H
 replace H : (if t366 = true then ((withylaw04_fixed.f k).bind fun t367 => (some t367)) else (none)) = some r := H
 have A11 := Aside0.mk A110
 clear A110
 by_cases c12 : t366 = true
 rotate_left
 ·replace c12 := Bool.eq_false_iff.mpr c12
  subst c12
  have H1 : (none) = some r := by rw [if_neg (show ¬ (false = true) by decide)] at H; exact H
  clear H
  have H := H1
  clear H1
  exact absurd H (by simp)
 subst c12
 have H1 : ((withylaw04_fixed.f k).bind fun t367 => (some t367)) = some r := by rw [if_pos rfl] at H; exact H
 clear H
 have H := H1
 clear H1
 replace H := bM H
 obtain ⟨t367, A130, H⟩ := H
 replace H : (some t367) = some r := H
 have A13 := Aside0.mk A130
 clear A130
 obtain rfl := Option.some.inj H
 go_enter Tryd.func6, Tryd.ntmps6
 go_wp2_with (first | ((with_reducible refine gate_callee (f := 13) rfl ?_); refine goesL_ (some 14) rfl rfl Tryd.func13 (by kernel_rfl) rfl #[.string js5] rfl aO ?_; (with_reducible refine (key_Get.calls k js5 t360 t361 _ A6.out).mono ?_); rintro e w14 ⟨v362, rfl, ho0, hb⟩; refine ⟨_, rfl, ?_⟩; have HO363 := as_ (Kd.R_lower ho0 (below_size bA)); replace HB := as_ (below_step bA hb); (try clear hb); (try clear hb2); (try clear hk); (try clear hi); (try clear ho0); obtain ⟨Ao15, co15, eo15⟩ := Kd.R_slice HO363.out; subst eo15) | ((with_reducible refine gate_callee (f := 10) rfl ?_); refine goesL_ (some 27) rfl rfl Tryd.func10 (by kernel_rfl) rfl #[.slice Ao15 t360.length co15] rfl aO ?_; (with_reducible refine (key_Put.calls k _ _ t360 t364 t365 _ ?side1 ?side2 A8.out).mono ?_); (case side1 => repeat (first | exact (Kd.R_reads' HO363.out).2.2 | (with_reducible refine Kd.C_alloc ?_ _) | (with_reducible refine Kd.C_drewN ?_ _) | (with_reducible refine Kd.C_drew ?_))); (case side2 => exact (Kd.R_reads' HO363.out).2.1); rintro e w16 ⟨rfl, hb⟩; refine ⟨_, rfl, ?_⟩; replace HO363 := as_ (Kd.R_below (by (with_reducible repeat (first | apply Kd.R_alloc | apply Kd.R_drewN | apply Kd.R_drew)); exact HO363.out) hb); replace HB := as_ (below_step bA hb); (try clear hb); (try clear hb2); (try clear hk); (try clear hi)) | (go_at_call 17; (with_reducible refine (withylaw04_right.calls k _ _ t360 true _ ?side1 ?side2 A11.out).mono ?_); (case side1 => repeat (first | exact (Kd.R_reads' HO363.out).2.2 | (with_reducible refine Kd.C_alloc ?_ _) | (with_reducible refine Kd.C_drewN ?_ _) | (with_reducible refine Kd.C_drew ?_))); (case side2 => exact (Kd.R_reads' HO363.out).2.1); rintro e w17 ⟨rfl, hb⟩; replace HO363 := as_ (Kd.R_below (by (with_reducible repeat (first | apply Kd.R_alloc | apply Kd.R_drewN | apply Kd.R_drew)); exact HO363.out) hb); replace HB := as_ (below_step bA hb); (try clear hb); (try clear hb2); (try clear hk); (try clear hi)) | (go_at_call 21; (with_reducible refine (withylaw04_fixed.calls k  t367 _ A13.out).mono ?_); rintro e w18 ⟨rfl, hb⟩; replace HO363 := as_ (Kd.R_below (by (with_reducible repeat (first | apply Kd.R_alloc | apply Kd.R_drewN | apply Kd.R_drew)); exact HO363.out) hb); replace HB := as_ (below_step bA hb); (try clear hb); (try clear hb2); (try clear hk); (try clear hi)))
 go_ret
 exact ⟨by first | rfl | (simp [errW_none, errW_some] <;> rfl) | (simp only [← hji2, ← hjs5]; first | rfl | (simp [errW_none, errW_some] <;> rfl)) | (simp [*, errW_none, errW_some] <;> rfl), by repeat (first | (with_reducible first | exact HB.out | apply below_alloc | apply pw_below_drewN | apply below_drew1) | exact HB.out)⟩
end Go.Proofs.YthaicofleloplaaDoor.P
