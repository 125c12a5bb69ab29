/- What is proved here: for functions of the Go text, a Lean function each, and that the call comes to just what it answers. Conditions: as each contract names them. Written by wip/tools/myprint.py, a driver of the print of the kit. -/
import Derived.Test.YtjfgeppfkhaliaaDoorP0
import Derived.Test.YtjfgeppfkhaliaaDoorP1
import Derived.Test.YtjfgeppfkhaliaaDoorP3
import Derived.Test.YtjfgeppfkhaliaaDoorP4
import Derived.Test.YtjfgeppfkhaliaaDoorP5
import Derived.Test.YtjfgeppfkhaliaaDoorP8
import Derived.Test.YtjfgeppfkhaliaaDoorP12
import Derived.Test.YtjfgeppfkhaliaaDoorWAbbr
namespace Go.Proofs.YtjfgeppfkhaliaaDoor.P
open Go.RowKit Go.Proofs.YtjfgeppfkhaliaaDoorW.PrintWords Go.Proofs.YtjfgeppfkhaliaaDoorW.PrintLast Go.Proofs.YtjfgeppfkhaliaaDoorW.PrintMore Go.Proofs.YtjfgeppfkhaliaaDoorW.Abbr
-- PACKED
attribute [local go_sem] max2_int min2_int max_two min_two max_three min_three max_four min_four Go.Proofs.YtjfgeppfkhaliaaDoorLaws.str_leq Go.Proofs.YtjfgeppfkhaliaaDoorLaws.str_gtr Go.Proofs.YtjfgeppfkhaliaaDoorLaws.str_geq Go.Proofs.YtjfgeppfkhaliaaDoorLaws.max2_str Go.Proofs.YtjfgeppfkhaliaaDoorLaws.min2_str   -- for this text's walks alone
set_option linter.unusedVariables false
set_option linter.unusedSimpArgs false

attribute [local go_sem high] eqA24
/-! ### withylaw03_ColBack: function 5 -/
def withylaw03_ColBack.j0 : Nat → Int → ByteArray → ByteArray → ByteArray → Int → Bool → Int → Int → Int → ByteArray → Option (Bool)
 | 0, _, _, _, _, _, _, _, _, _, _ => none
 | k + 1, x2, x7, x8, x9, x10, x44, x396000, x396001, x396002, x396003 => if x44 = true then (if x10 = 3 then (if x9.toList = ([] : List UInt8) then ((col_Right.f k x396000 x396001 x396002 x396003).bind fun t403 => (if t403 = true then (none) else ((withylaw03_fixed.f k).bind fun t404 => (some t404)))) else (none)) else (none)) else (if x7.size + x9.size ≤ 9223372036854775807 then (if (x7 ++ x9).size + x8.size ≤ 9223372036854775807 then ((col_Get.f k ((x7 ++ x9) ++ x8) (x7.size : Int)).bind fun bt405 => (if (x9.size : Int) = 0 then (none) else (if 0 ≤ (Int.tmod (wrap64 (x2)) (x9.size : Int)) then (if (Int.tmod (wrap64 (x2)) (x9.size : Int)) ≤ (x9.size : Int) then (if x7.size + (x9.extract 0 ((Int.tmod (wrap64 (x2)) (x9.size : Int)) : Int).toNat).size ≤ 9223372036854775807 then ((col_Get.f k (x7 ++ (x9.extract 0 ((Int.tmod (wrap64 (x2)) (x9.size : Int)) : Int).toNat)) (x7.size : Int)).bind fun bt412 => (if (bt405.1 == x396000 && (bt405.2.1 == x396001 && (bt405.2.2.1 == x396002 && (bt405.2.2.2.1.toList == x396003.toList)))) = true then (if bt405.2.2.2.2.1 = (wrap64 ((x7.size : Int) + (x9.size : Int))) then (if bt405.2.2.2.2.2 = 0 then (if bt412.2.2.2.2.2 = 7 then ((withylaw03_fixed.f k).bind fun t419 => (some t419)) else (none)) else (none)) else (none)) else (none))) else (none)) else (none)) else (none)))) else (none)) else (none))
def withylaw03_ColBack.f (k : Nat) (a0_0 : Int) (a0_1 : Int) (a0_2 : Int) (a0_3 : ByteArray) (a1_0 : ByteArray) (a1_1 : ByteArray) (a2 : Int) : Option (Bool) := (withylaw03_Cut.f a0_0 a0_1 a0_2 a0_3).bind fun bt397 => (if 0 ≤ (mn (a1_0.size : Int) 20) then (if (mn (a1_0.size : Int) 20) ≤ (a1_0.size : Int) then (if 0 ≤ (mn (a1_1.size : Int) 20) then (if (mn (a1_1.size : Int) 20) ≤ (a1_1.size : Int) then ((col_Put.f k bt397.1 bt397.2.1 bt397.2.2.1 bt397.2.2.2).bind fun bt401 => (if bt401.2 = 0 then (withylaw03_ColBack.j0 k a2 (a1_0.extract 0 ((mn (a1_0.size : Int) 20) : Int).toNat) (a1_1.extract 0 ((mn (a1_1.size : Int) 20) : Int).toNat) bt401.1 bt401.2 ((bt401.1.size : Int) == 0) bt397.1 bt397.2.1 bt397.2.2.1 bt397.2.2.2) else (withylaw03_ColBack.j0 k a2 (a1_0.extract 0 ((mn (a1_0.size : Int) 20) : Int).toNat) (a1_1.extract 0 ((mn (a1_1.size : Int) 20) : Int).toNat) bt401.1 bt401.2 true bt397.1 bt397.2.1 bt397.2.2.1 bt397.2.2.2))) else (none)) else (none)) else (none)) else (none))
theorem withylaw03_ColBack.mono_l : ∀ k, (∀ y0 y1 y2 y3 y4 y5 y6 y7 y8 y9, LeO (withylaw03_ColBack.j0 k y0 y1 y2 y3 y4 y5 y6 y7 y8 y9) (withylaw03_ColBack.j0 (k + 1) y0 y1 y2 y3 y4 y5 y6 y7 y8 y9))
 | 0 => fun _ _ _ _ _ _ _ _ _ _ r h => by simp [withylaw03_ColBack.j0] at h
 | k + 1 => by
  have ih0 := withylaw03_ColBack.mono_l k
  ·intro y0 y1 y2 y3 y4 y5 y6 y7 y8 y9
   unfold withylaw03_ColBack.j0
   repeat' first
   | (with_reducible exact ih0 _ _ _ _ _ _ _ _ _ _)
   | (with_reducible exact col_Get.mono _ _ _)
   | (with_reducible exact col_Put.mono _ _ _ _ _)
   | (with_reducible exact col_Right.mono _ _ _ _ _)
   | (with_reducible exact withylaw03_fixed.mono _)
   | (with_reducible exact LeO.refl _)
   | (with_reducible exact LeO.none _)
   | (with_reducible refine LeO.ite ?_ ?_)
   | (with_reducible refine LeO.bind ?_ (fun _ => ?_))
   | exact ih0 _ _ _ _ _ _ _ _ _ _
   | exact col_Get.mono _ _ _
   | exact col_Put.mono _ _ _ _ _
   | exact col_Right.mono _ _ _ _ _
   | exact withylaw03_fixed.mono _
   | exact LeO.none _
   | refine LeO.ite ?_ ?_
   | refine LeO.bind ?_ (fun _ => ?_)
theorem withylaw03_ColBack.mono : ∀ a0 a1 a2 a3 a4 a5 a6 k, LeO (withylaw03_ColBack.f k a0 a1 a2 a3 a4 a5 a6) (withylaw03_ColBack.f (k + 1) a0 a1 a2 a3 a4 a5 a6) := by
 intro a0 a1 a2 a3 a4 a5 a6 k
 have ih0 := withylaw03_ColBack.mono_l k
 unfold withylaw03_ColBack.f
 repeat' first
   | (with_reducible exact ih0 _ _ _ _ _ _ _ _ _ _)
   | (with_reducible exact col_Get.mono _ _ _)
   | (with_reducible exact col_Put.mono _ _ _ _ _)
   | (with_reducible exact col_Right.mono _ _ _ _ _)
   | (with_reducible exact withylaw03_fixed.mono _)
   | (with_reducible exact LeO.refl _)
   | (with_reducible exact LeO.none _)
   | (with_reducible refine LeO.ite ?_ ?_)
   | (with_reducible refine LeO.bind ?_ (fun _ => ?_))
   | exact ih0 _ _ _ _ _ _ _ _ _ _
   | exact col_Get.mono _ _ _
   | exact col_Put.mono _ _ _ _ _
   | exact col_Right.mono _ _ _ _ _
   | exact withylaw03_fixed.mono _
   | exact LeO.none _
   | refine LeO.ite ?_ ?_
   | refine LeO.bind ?_ (fun _ => ?_)
set_option maxHeartbeats 8000000 in
set_option maxRecDepth 100000 in
theorem withylaw03_ColBack.calls (k : Nat) (a0_0 : Int) (a0_1 : Int) (a0_2 : Int) (a0_3 : ByteArray) (a1_0 : ByteArray) (a1_1 : ByteArray) (a2 : Int) (r : Bool) (w : World) (h : withylaw03_ColBack.f k a0_0 a0_1 a0_2 a0_3 a1_0 a1_1 a2 = some r) :
  Calls Tryd.prog 5 #[.agg #[.int .i64 a0_0, .int .i64 a0_1, .int .u64 a0_2, .string a0_3], .agg #[.string a1_0, .string a1_1], .int .u8 a2] w fun e w' => e = .returned (.bool r) ∧ Below w.heap.size w w' := by
 have hu24 := Tryd.underlying24
 have hu44 := Tryd.underlying44
 have HB := as_ (Below.refl w.heap.size w)
 have H : ((withylaw03_Cut.f a0_0 a0_1 a0_2 a0_3).bind fun bt397 => (if 0 ≤ (mn (a1_0.size : Int) 20) then (if (mn (a1_0.size : Int) 20) ≤ (a1_0.size : Int) then (if 0 ≤ (mn (a1_1.size : Int) 20) then (if (mn (a1_1.size : Int) 20) ≤ (a1_1.size : Int) then ((col_Put.f k bt397.1 bt397.2.1 bt397.2.2.1 bt397.2.2.2).bind fun bt401 => (if bt401.2 = 0 then (withylaw03_ColBack.j0 k a2 (a1_0.extract 0 ((mn (a1_0.size : Int) 20) : Int).toNat) (a1_1.extract 0 ((mn (a1_1.size : Int) 20) : Int).toNat) bt401.1 bt401.2 ((bt401.1.size : Int) == 0) bt397.1 bt397.2.1 bt397.2.2.1 bt397.2.2.2) else (withylaw03_ColBack.j0 k a2 (a1_0.extract 0 ((mn (a1_0.size : Int) 20) : Int).toNat) (a1_1.extract 0 ((mn (a1_1.size : Int) 20) : Int).toNat) bt401.1 bt401.2 true bt397.1 bt397.2.1 bt397.2.2.1 bt397.2.2.2))) else (none)) else (none)) else (none)) else (none))) = some r := h
 clear h
 replace H := bM H
 obtain ⟨⟨t397, t398, t399, t400⟩, A40, H⟩ := H
 replace H : (if 0 ≤ (mn (a1_0.size : Int) 20) then (if (mn (a1_0.size : Int) 20) ≤ (a1_0.size : Int) then (if 0 ≤ (mn (a1_1.size : Int) 20) then (if (mn (a1_1.size : Int) 20) ≤ (a1_1.size : Int) then ((col_Put.f k t397 t398 t399 t400).bind fun bt401 => (if bt401.2 = 0 then (withylaw03_ColBack.j0 k a2 (a1_0.extract 0 ((mn (a1_0.size : Int) 20) : Int).toNat) (a1_1.extract 0 ((mn (a1_1.size : Int) 20) : Int).toNat) bt401.1 bt401.2 ((bt401.1.size : Int) == 0) t397 t398 t399 t400) else (withylaw03_ColBack.j0 k a2 (a1_0.extract 0 ((mn (a1_0.size : Int) 20) : Int).toNat) (a1_1.extract 0 ((mn (a1_1.size : Int) 20) : Int).toNat) bt401.1 bt401.2 true t397 t398 t399 t400))) else (none)) else (none)) else (none)) else (none)) = some r := H
 have A4 := Aside0.mk A40
 clear A40
 obtain ⟨ji5, hji5⟩ : ∃ j_ : Int, (mn (a1_0.size : Int) 20) = j_ := ⟨_, rfl⟩
 replace H : (if 0 ≤ (ji5) then (if (ji5) ≤ (a1_0.size : Int) then (if 0 ≤ (mn (a1_1.size : Int) 20) then (if (mn (a1_1.size : Int) 20) ≤ (a1_1.size : Int) then ((col_Put.f k t397 t398 t399 t400).bind fun bt401 => (if bt401.2 = 0 then (withylaw03_ColBack.j0 k a2 (a1_0.extract 0 ((ji5) : Int).toNat) (a1_1.extract 0 ((mn (a1_1.size : Int) 20) : Int).toNat) bt401.1 bt401.2 ((bt401.1.size : Int) == 0) t397 t398 t399 t400) else (withylaw03_ColBack.j0 k a2 (a1_0.extract 0 ((ji5) : Int).toNat) (a1_1.extract 0 ((mn (a1_1.size : Int) 20) : Int).toNat) bt401.1 bt401.2 true t397 t398 t399 t400))) else (none)) else (none)) else (none)) else (none)) = some r := by first | (rw [hji5] at H; exact H) | (simp only [hji5] at H ⊢; exact H)
 (try rw [hji5] at A4)
 (try (have hji5h : ji5 ≤ 20 := by (rw [← hji5]; unfold mn; (repeat' split) <;> omega)))
 (try (have hji5g : ji5 ≤ 64 := by omega))
 (try (have hji5l : 0 ≤ ji5 := by (rw [← hji5]; unfold mn; (repeat' split) <;> omega)))
 (try (have hji5m : 0 ≤ ji5 := by omega))
 have hji5_ : (if 20 < (a1_0.size : Int) then 20 else (a1_0.size : Int)) = ji5 := hji5
 by_cases c6 : 0 ≤ (ji5)
 rotate_left
 ·rw [if_neg c6] at H
  exact absurd H (by simp)
 
 rw [if_pos c6] at H
 have c6b0 := eq_true c6
 have c6b1 : decide (0 ≤ (ji5)) = true := decide_eq_true c6
 clear c6
 by_cases c7 : (ji5) ≤ (a1_0.size : Int)
 rotate_left
 ·rw [if_neg c7] at H
  exact absurd H (by simp)
 rw [if_pos c7] at H
 have c7b0 := eq_true c7
 have c7b1 : decide ((ji5) ≤ (a1_0.size : Int)) = true := decide_eq_true c7
 clear c7
 obtain ⟨js8, hjs8⟩ : ∃ j_ : ByteArray, (a1_0.extract 0 ((ji5) : Int).toNat) = j_ := ⟨_, rfl⟩
 replace H : (if 0 ≤ (mn (a1_1.size : Int) 20) then (if (mn (a1_1.size : Int) 20) ≤ (a1_1.size : Int) then ((col_Put.f k t397 t398 t399 t400).bind fun bt401 => (if bt401.2 = 0 then (withylaw03_ColBack.j0 k a2 js8 (a1_1.extract 0 ((mn (a1_1.size : Int) 20) : Int).toNat) bt401.1 bt401.2 ((bt401.1.size : Int) == 0) t397 t398 t399 t400) else (withylaw03_ColBack.j0 k a2 js8 (a1_1.extract 0 ((mn (a1_1.size : Int) 20) : Int).toNat) bt401.1 bt401.2 true t397 t398 t399 t400))) else (none)) else (none)) = some r := by first | (rw [hjs8] at H; exact H) | (simp only [hjs8] at H ⊢; exact H)
 (try rw [hjs8] at A4)
 obtain ⟨ji9, hji9⟩ : ∃ j_ : Int, (mn (a1_1.size : Int) 20) = j_ := ⟨_, rfl⟩
 replace H : (if 0 ≤ (ji9) then (if (ji9) ≤ (a1_1.size : Int) then ((col_Put.f k t397 t398 t399 t400).bind fun bt401 => (if bt401.2 = 0 then (withylaw03_ColBack.j0 k a2 js8 (a1_1.extract 0 ((ji9) : Int).toNat) bt401.1 bt401.2 ((bt401.1.size : Int) == 0) t397 t398 t399 t400) else (withylaw03_ColBack.j0 k a2 js8 (a1_1.extract 0 ((ji9) : Int).toNat) bt401.1 bt401.2 true t397 t398 t399 t400))) else (none)) else (none)) = some r := by first | (rw [hji9] at H; exact H) | (simp only [hji9] at H ⊢; exact H)
 (try rw [hji9] at A4)
 (try (have hji9h : ji9 ≤ 20 := by (rw [← hji9]; unfold mn; (repeat' split) <;> omega)))
 (try (have hji9g : ji9 ≤ 64 := by omega))
 (try (have hji9l : 0 ≤ ji9 := by (rw [← hji9]; unfold mn; (repeat' split) <;> omega)))
 (try (have hji9m : 0 ≤ ji9 := by omega))
 have hji9_ : (if 20 < (a1_1.size : Int) then 20 else (a1_1.size : Int)) = ji9 := hji9
 by_cases c10 : 0 ≤ (ji9)
 rotate_left
 ·rw [if_neg c10] at H
  exact absurd H (by simp)
 rw [if_pos c10] at H
 have c10b0 := eq_true c10
 have c10b1 : decide (0 ≤ (ji9)) = true := decide_eq_true c10
 clear c10
 by_cases c11 : (ji9) ≤ (a1_1.size : Int)
 rotate_left
 ·rw [if_neg c11] at H
  exact absurd H (by simp)
 rw [if_pos c11] at H
 have c11b0 := eq_true c11
 have c11b1 : decide ((ji9) ≤ (a1_1.size : Int)) = true := decide_eq_true c11
 clear c11
 obtain ⟨js12, hjs12⟩ : ∃ j_ : ByteArray, (a1_1.extract 0 ((ji9) : Int).toNat) = j_ := ⟨_, rfl⟩
 replace H : ((col_Put.f k t397 t398 t399 t400).bind fun bt401 => (if bt401.2 = 0 then (withylaw03_ColBack.j0 k a2 js8 js12 bt401.1 bt401.2 ((bt401.1.size : Int) == 0) t397 t398 t399 t400) else (withylaw03_ColBack.j0 k a2 js8 js12 bt401.1 bt401.2 true t397 t398 t399 t400))) = some r := by first | (rw [hjs12] at H; exact H) | (simp only [hjs12] at H ⊢; exact H)
 (try rw [hjs12] at A4)
 replace H := bM H
 obtain ⟨⟨t401, t402⟩, A130, H⟩ := H
 replace H : (if t402 = 0 then (withylaw03_ColBack.j0 k a2 js8 js12 t401 t402 ((t401.size : Int) == 0) t397 t398 t399 t400) else (withylaw03_ColBack.j0 k a2 js8 js12 t401 t402 true t397 t398 t399 t400)) = some r := H
 have A13 := Aside0.mk A130
 clear A130
 have HC14 := Aside0.mk H
 clear H
 go_enter Tryd.func5, Tryd.ntmps5
 go_upto_region 4 with (first | ((with_reducible refine gate_dst (N := 3) rfl ?_); (try (refine gate_guard (by rfl) ?_; dsimp only)); refine box_event (by rfl) (N := 3) (by rfl) (cs := #[.int .i64 a0_0, .int .i64 a0_1, .int .u64 a0_2, .string a0_3]) (t := 24) gS ?_; intro gb395 hg w15 hbox hb; have BK395 := as_ (hbox); have GW395 := gw hg bA; have GE395 := gw hg bA; replace HB := as_ (below_step bA hb); clear hb hbox hg) | ((with_reducible refine gate_dst (N := 4) rfl ?_); (try (refine gate_guard (by rfl) ?_; dsimp only)); refine box_event (by rfl) (N := 4) (by rfl) (cs := #[.string a1_0, .string a1_1]) (t := 44) gS ?_; intro gb396 hg w16 hbox hb; have BK396 := as_ (hbox); have GW396 := gw hg bA; have GE396 := gw hg bA; have NB395_396 := nl BK395 hg; have NB396_395 := ng BK395 hg; replace BK395 := bb BK395 hb; replace HB := as_ (below_step bA hb); clear hb hbox hg; have hnb17 := NB395_396.out; have hnc17 := NB396_395.out; obtain ⟨hcz18_0, hcz18_1, hcz18_2, hcz18_3⟩ := zc4 BK395; obtain ⟨hfz18_0, hfz18_1, hfz18_2, hfz18_3⟩ := zf4 BK395) | (go_at_call 9; (with_reducible refine (withylaw03_Cut.calls a0_0 a0_1 a0_2 a0_3 t397 t398 t399 t400 _ A4.out).mono ?_); rintro e w19 ⟨rfl, hb⟩; replace BK395 := bb BK395 hb; replace BK396 := bb BK396 hb; replace HB := as_ (below_step bA hb); (try clear hb); (try clear hb2); (try clear hk); (try clear hi); obtain ⟨hcz20_0, hcz20_1, hcz20_2, hcz20_3⟩ := zc4 BK395; obtain ⟨hfz20_0, hfz20_1, hfz20_2, hfz20_3⟩ := zf4 BK395; obtain ⟨hcz21_0, hcz21_1⟩ := zc2 BK396; obtain ⟨hfz21_0, hfz21_1⟩ := zf2 BK396) | (go_at_call 10; (with_reducible refine (col_Put.calls k t397 t398 t399 t400 t401 t402 _ A13.out).mono ?_); rintro e w22 ⟨rfl, hb⟩; replace BK395 := as_ (blk_below (g := gb395) (o := .cells #[.int .i64 t397, .int .i64 t398, .int .u64 t399, .string t400] 24 (0, 0)) (by refine bx ?_; refine blk_put (cs := #[.int .i64 t397, .int .i64 t398, .int .u64 t399, .string a0_3]) ?_ 3 _ rfl; refine bx ?_; refine blk_put (cs := #[.int .i64 t397, .int .i64 t398, .int .u64 a0_2, .string a0_3]) ?_ 2 _ rfl; refine bx ?_; refine blk_put (cs := #[.int .i64 t397, .int .i64 a0_1, .int .u64 a0_2, .string a0_3]) ?_ 1 _ rfl; refine bx ?_; refine blk_put (cs := #[.int .i64 a0_0, .int .i64 a0_1, .int .u64 a0_2, .string a0_3]) ?_ 0 _ rfl; refine bx ?_; exact BK395.out) hb); replace BK396 := as_ (blk_below (g := gb396) (o := .cells #[.string a1_0, .string a1_1] 44 (0, 0)) (by refine bx ?_; refine blk_far ?_ NB396_395.out _; refine bx ?_; refine blk_far ?_ NB396_395.out _; refine bx ?_; refine blk_far ?_ NB396_395.out _; refine bx ?_; refine blk_far ?_ NB396_395.out _; refine bx ?_; exact BK396.out) hb); replace HB := as_ (below_step bA hb); (try clear hb); (try clear hb2); (try clear hk); (try clear hi)))
 repeat (go_quiet (first | ((with_reducible refine gate_dst (N := 3) rfl ?_); (try (refine gate_guard (by rfl) ?_; dsimp only)); refine box_event (by rfl) (N := 3) (by rfl) (cs := #[.int .i64 a0_0, .int .i64 a0_1, .int .u64 a0_2, .string a0_3]) (t := 24) gS ?_; intro gb395 hg w15 hbox hb; have BK395 := as_ (hbox); have GW395 := gw hg bA; have GE395 := gw hg bA; replace HB := as_ (below_step bA hb); clear hb hbox hg) | ((with_reducible refine gate_dst (N := 4) rfl ?_); (try (refine gate_guard (by rfl) ?_; dsimp only)); refine box_event (by rfl) (N := 4) (by rfl) (cs := #[.string a1_0, .string a1_1]) (t := 44) gS ?_; intro gb396 hg w16 hbox hb; have BK396 := as_ (hbox); have GW396 := gw hg bA; have GE396 := gw hg bA; have NB395_396 := nl BK395 hg; have NB396_395 := ng BK395 hg; replace BK395 := bb BK395 hb; replace HB := as_ (below_step bA hb); clear hb hbox hg; have hnb17 := NB395_396.out; have hnc17 := NB396_395.out; obtain ⟨hcz18_0, hcz18_1, hcz18_2, hcz18_3⟩ := zc4 BK395; obtain ⟨hfz18_0, hfz18_1, hfz18_2, hfz18_3⟩ := zf4 BK395) | (go_at_call 9; (with_reducible refine (withylaw03_Cut.calls a0_0 a0_1 a0_2 a0_3 t397 t398 t399 t400 _ A4.out).mono ?_); rintro e w19 ⟨rfl, hb⟩; replace BK395 := bb BK395 hb; replace BK396 := bb BK396 hb; replace HB := as_ (below_step bA hb); (try clear hb); (try clear hb2); (try clear hk); (try clear hi); obtain ⟨hcz20_0, hcz20_1, hcz20_2, hcz20_3⟩ := zc4 BK395; obtain ⟨hfz20_0, hfz20_1, hfz20_2, hfz20_3⟩ := zf4 BK395; obtain ⟨hcz21_0, hcz21_1⟩ := zc2 BK396; obtain ⟨hfz21_0, hfz21_1⟩ := zf2 BK396) | (go_at_call 10; (with_reducible refine (col_Put.calls k t397 t398 t399 t400 t401 t402 _ A13.out).mono ?_); rintro e w22 ⟨rfl, hb⟩; replace BK395 := as_ (blk_below (g := gb395) (o := .cells #[.int .i64 t397, .int .i64 t398, .int .u64 t399, .string t400] 24 (0, 0)) (by refine bx ?_; refine blk_put (cs := #[.int .i64 t397, .int .i64 t398, .int .u64 t399, .string a0_3]) ?_ 3 _ rfl; refine bx ?_; refine blk_put (cs := #[.int .i64 t397, .int .i64 t398, .int .u64 a0_2, .string a0_3]) ?_ 2 _ rfl; refine bx ?_; refine blk_put (cs := #[.int .i64 t397, .int .i64 a0_1, .int .u64 a0_2, .string a0_3]) ?_ 1 _ rfl; refine bx ?_; refine blk_put (cs := #[.int .i64 a0_0, .int .i64 a0_1, .int .u64 a0_2, .string a0_3]) ?_ 0 _ rfl; refine bx ?_; exact BK395.out) hb); replace BK396 := as_ (blk_below (g := gb396) (o := .cells #[.string a1_0, .string a1_1] 44 (0, 0)) (by refine bx ?_; refine blk_far ?_ NB396_395.out _; refine bx ?_; refine blk_far ?_ NB396_395.out _; refine bx ?_; refine blk_far ?_ NB396_395.out _; refine bx ?_; refine blk_far ?_ NB396_395.out _; refine bx ?_; exact BK396.out) hb); replace HB := as_ (below_step bA hb); (try clear hb); (try clear hb2); (try clear hk); (try clear hi))); go_upto_region 4 with (first | ((with_reducible refine gate_dst (N := 3) rfl ?_); (try (refine gate_guard (by rfl) ?_; dsimp only)); refine box_event (by rfl) (N := 3) (by rfl) (cs := #[.int .i64 a0_0, .int .i64 a0_1, .int .u64 a0_2, .string a0_3]) (t := 24) gS ?_; intro gb395 hg w15 hbox hb; have BK395 := as_ (hbox); have GW395 := gw hg bA; have GE395 := gw hg bA; replace HB := as_ (below_step bA hb); clear hb hbox hg) | ((with_reducible refine gate_dst (N := 4) rfl ?_); (try (refine gate_guard (by rfl) ?_; dsimp only)); refine box_event (by rfl) (N := 4) (by rfl) (cs := #[.string a1_0, .string a1_1]) (t := 44) gS ?_; intro gb396 hg w16 hbox hb; have BK396 := as_ (hbox); have GW396 := gw hg bA; have GE396 := gw hg bA; have NB395_396 := nl BK395 hg; have NB396_395 := ng BK395 hg; replace BK395 := bb BK395 hb; replace HB := as_ (below_step bA hb); clear hb hbox hg; have hnb17 := NB395_396.out; have hnc17 := NB396_395.out; obtain ⟨hcz18_0, hcz18_1, hcz18_2, hcz18_3⟩ := zc4 BK395; obtain ⟨hfz18_0, hfz18_1, hfz18_2, hfz18_3⟩ := zf4 BK395) | (go_at_call 9; (with_reducible refine (withylaw03_Cut.calls a0_0 a0_1 a0_2 a0_3 t397 t398 t399 t400 _ A4.out).mono ?_); rintro e w19 ⟨rfl, hb⟩; replace BK395 := bb BK395 hb; replace BK396 := bb BK396 hb; replace HB := as_ (below_step bA hb); (try clear hb); (try clear hb2); (try clear hk); (try clear hi); obtain ⟨hcz20_0, hcz20_1, hcz20_2, hcz20_3⟩ := zc4 BK395; obtain ⟨hfz20_0, hfz20_1, hfz20_2, hfz20_3⟩ := zf4 BK395; obtain ⟨hcz21_0, hcz21_1⟩ := zc2 BK396; obtain ⟨hfz21_0, hfz21_1⟩ := zf2 BK396) | (go_at_call 10; (with_reducible refine (col_Put.calls k t397 t398 t399 t400 t401 t402 _ A13.out).mono ?_); rintro e w22 ⟨rfl, hb⟩; replace BK395 := as_ (blk_below (g := gb395) (o := .cells #[.int .i64 t397, .int .i64 t398, .int .u64 t399, .string t400] 24 (0, 0)) (by refine bx ?_; refine blk_put (cs := #[.int .i64 t397, .int .i64 t398, .int .u64 t399, .string a0_3]) ?_ 3 _ rfl; refine bx ?_; refine blk_put (cs := #[.int .i64 t397, .int .i64 t398, .int .u64 a0_2, .string a0_3]) ?_ 2 _ rfl; refine bx ?_; refine blk_put (cs := #[.int .i64 t397, .int .i64 a0_1, .int .u64 a0_2, .string a0_3]) ?_ 1 _ rfl; refine bx ?_; refine blk_put (cs := #[.int .i64 a0_0, .int .i64 a0_1, .int .u64 a0_2, .string a0_3]) ?_ 0 _ rfl; refine bx ?_; exact BK395.out) hb); replace BK396 := as_ (blk_below (g := gb396) (o := .cells #[.string a1_0, .string a1_1] 44 (0, 0)) (by refine bx ?_; refine blk_far ?_ NB396_395.out _; refine bx ?_; refine blk_far ?_ NB396_395.out _; refine bx ?_; refine blk_far ?_ NB396_395.out _; refine bx ?_; refine blk_far ?_ NB396_395.out _; refine bx ?_; exact BK396.out) hb); replace HB := as_ (below_step bA hb); (try clear hb); (try clear hb2); (try clear hk); (try clear hi))))
 (try simp only [Act.put, List.setIfInBounds_toArray, List.set_cons_zero, List.set_cons_succ])
 go_cut [44] (fun v44 wc => ∃ (kq : Nat) (x44_13 : Bool), v44 = .bool x44_13 ∧ Aside0 (withylaw03_ColBack.j0 kq a2 js8 js12 t401 t402 x44_13 t397 t398 t399 t400 = some r) ∧ Aside0 (kq ≤ k) ∧ Aside0 (wc.heap[gb395]? = some (.cells #[.int .i64 t397, .int .i64 t398, .int .u64 t399, .string t400] 24 (0, 0))) ∧ Aside0 (wc.heap[gb396]? = some (.cells #[.string a1_0, .string a1_1] 44 (0, 0))) ∧ Aside0 (Below w.heap.size w wc))
 case first =>
  have H := HC14.out
  clear HC14
  by_cases c23 : t402 = 0
  rotate_left
  ·rw [if_neg c23] at H
   have c23b0 : (t402 == 0) = false := beq_eq_false_iff_ne.mpr c23
   have c23b1 : (t402 != 0) = true := bne_iff_ne.mpr c23
   (first | rw [c23b0] | (simp only [i64_w, i32_w]; rw [c23b0]) | rw [c23b1] | skip)
   have H' := Aside0.mk H
   clear H
   go_wp2
   repeat (go_quiet (fail); try go_wp2)
   go_meet
   case rel => exact ⟨_, (true), (by first | rfl | (simp; done) | (simp [*]; done)), H', ⟨by first | omega | exact Nat.le_refl _⟩, ⟨by refine bx ?_; exact BK395.out⟩, ⟨by refine bx ?_; exact BK396.out⟩, ⟨by repeat (first | (with_reducible first | exact HB.out | apply below_alloc | apply pw_below_drewN | apply below_drew1 | refine below_set ?_ GE395.out | refine below_set ?_ GE396.out) | exact HB.out)⟩⟩
  rw [if_pos c23] at H
  have c23b0 : (t402 == 0) = true := beq_iff_eq.mpr c23
  have c23b1 : (t402 != 0) = false := bne_eq_false_iff_eq.mpr c23
  clear c23
  (first | rw [c23b0] | (simp only [i64_w, i32_w]; rw [c23b0]) | rw [c23b1] | skip)
  have H' := Aside0.mk H
  clear H
  go_wp2
  repeat (go_quiet (fail); try go_wp2)
  go_meet
  case rel => exact ⟨_, (((t401.size : Int) == 0)), (by first | rfl | (simp; done) | (simp [*]; done)), H', ⟨by first | omega | exact Nat.le_refl _⟩, ⟨by refine bx ?_; exact BK395.out⟩, ⟨by refine bx ?_; exact BK396.out⟩, ⟨by repeat (first | (with_reducible first | exact HB.out | apply below_alloc | apply pw_below_drewN | apply below_drew1 | refine below_set ?_ GE395.out | refine below_set ?_ GE396.out) | exact HB.out)⟩⟩
 case rest =>
  clear HC14
  try clear c1
  try clear c2
  try clear p2
  try clear c5
  try clear c6
  try clear c6b0
  try clear c6b1
  try clear c7
  try clear c7b0
  try clear c7b1
  try clear c10
  try clear c10b0
  try clear c10b1
  try clear c11
  try clear c11b0
  try clear c11b1
  try clear c17
  try clear c23
  try clear c23b0
  try clear c23b1
  try clear hcz18_0
  try clear hcz18_1
  try clear hcz18_2
  try clear hcz18_3
  try clear hcz20_0
  try clear hcz20_1
  try clear hcz20_2
  try clear hcz20_3
  try clear hcz21_0
  try clear hcz21_1
  try clear hfz18_0
  try clear hfz18_1
  try clear hfz18_2
  try clear hfz18_3
  try clear hfz20_0
  try clear hfz20_1
  try clear hfz20_2
  try clear hfz20_3
  try clear hfz21_0
  try clear hfz21_1
  obtain ⟨kq, x44_13, rfl, HA, HJ13, BK395, BK396, HB⟩ := hcut
  cases kq with
  | zero => exact absurd HA.out (by simp [withylaw03_ColBack.j0])
  | succ kj13 =>
   have H := HA.out
   clear HA
   simp only [withylaw03_ColBack.j0] at H
   by_cases c24 : x44_13 = true
   ·subst c24
    have H1 : (if t402 = 3 then (if t401.toList = ([] : List UInt8) then ((col_Right.f kj13 t397 t398 t399 t400).bind fun t403 => (if t403 = true then (none) else ((withylaw03_fixed.f kj13).bind fun t404 => (some t404)))) else (none)) else (none)) = some r := by rw [if_pos rfl] at H; exact H
    clear H
    have H := H1
    clear H1
    by_cases c25 : t402 = 3
    rotate_left
    ·rw [if_neg c25] at H
     exact absurd H (by simp)
    rw [if_pos c25] at H
    have c25b0 : (t402 == 3) = true := beq_iff_eq.mpr c25
    have c25b1 : (t402 != 3) = false := bne_eq_false_iff_eq.mpr c25
    clear c25
    by_cases c26 : t401.toList = ([] : List UInt8)
    rotate_left
    ·rw [if_neg c26] at H
     exact absurd H (by simp)
    rw [if_pos c26] at H
    have c26b0 : (t401.toList == ([] : List UInt8)) = true := beq_iff_eq.mpr c26
    have c26b1 : (t401.toList != ([] : List UInt8)) = false := bne_eq_false_iff_eq.mpr c26
    clear c26
    replace H := bM H
    obtain ⟨t403, A270, H⟩ := H
    replace H : (if t403 = true then (none) else ((withylaw03_fixed.f kj13).bind fun t404 => (some t404))) = some r := H
    have A27 := Aside0.mk A270
    clear A270
    by_cases c28 : t403 = true
    ·subst c28
     have H1 : (none) = some r := by rw [if_pos rfl] at H; exact H
     clear H
     have H := H1
     clear H1
     exact absurd H (by simp)
    replace c28 := Bool.eq_false_iff.mpr c28
    subst c28
    have H1 : ((withylaw03_fixed.f kj13).bind fun t404 => (some t404)) = some r := by rw [if_neg (show ¬ (false = true) by decide)] at H; exact H
    clear H
    have H := H1
    clear H1
    replace H := bM H
    obtain ⟨t404, A290, H⟩ := H
    replace H : (some t404) = some r := H
    have A29 := Aside0.mk A290
    clear A290
    obtain rfl := Option.some.inj H
    have hnb30 := NB395_396.out
    have hnc30 := NB396_395.out
    obtain ⟨hcz31_0, hcz31_1, hcz31_2, hcz31_3⟩ := zc4 BK395
    obtain ⟨hfz31_0, hfz31_1, hfz31_2, hfz31_3⟩ := zf4 BK395
    go_wp2_with (first | (go_at_call 15; (with_reducible refine (col_Right.calls kj13 t397 t398 t399 t400 false _ A27.out).mono ?_); rintro e w32 ⟨rfl, hb⟩; replace BK395 := bb BK395 hb; replace BK396 := bb BK396 hb; replace HB := as_ (below_step bA hb); (try clear hb); (try clear hb2); (try clear hk); (try clear hi)) | (go_at_call 19; (with_reducible refine (withylaw03_fixed.calls kj13  t404 _ A29.out).mono ?_); rintro e w33 ⟨rfl, hb⟩; replace BK395 := bb BK395 hb; replace BK396 := bb BK396 hb; replace HB := as_ (below_step bA hb); (try clear hb); (try clear hb2); (try clear hk); (try clear hi)))
    repeat (go_quiet (first | (go_at_call 15; (with_reducible refine (col_Right.calls kj13 t397 t398 t399 t400 false _ A27.out).mono ?_); rintro e w32 ⟨rfl, hb⟩; replace BK395 := bb BK395 hb; replace BK396 := bb BK396 hb; replace HB := as_ (below_step bA hb); (try clear hb); (try clear hb2); (try clear hk); (try clear hi)) | (go_at_call 19; (with_reducible refine (withylaw03_fixed.calls kj13  t404 _ A29.out).mono ?_); rintro e w33 ⟨rfl, hb⟩; replace BK395 := bb BK395 hb; replace BK396 := bb BK396 hb; replace HB := as_ (below_step bA hb); (try clear hb); (try clear hb2); (try clear hk); (try clear hi))); try go_wp2_with (first | (go_at_call 15; (with_reducible refine (col_Right.calls kj13 t397 t398 t399 t400 false _ A27.out).mono ?_); rintro e w32 ⟨rfl, hb⟩; replace BK395 := bb BK395 hb; replace BK396 := bb BK396 hb; replace HB := as_ (below_step bA hb); (try clear hb); (try clear hb2); (try clear hk); (try clear hi)) | (go_at_call 19; (with_reducible refine (withylaw03_fixed.calls kj13  t404 _ A29.out).mono ?_); rintro e w33 ⟨rfl, hb⟩; replace BK395 := bb BK395 hb; replace BK396 := bb BK396 hb; replace HB := as_ (below_step bA hb); (try clear hb); (try clear hb2); (try clear hk); (try clear hi))))
    go_ret
    exact ⟨by first | rfl | (simp [errW_none, errW_some] <;> rfl) | (simp only [← hji5, ← hjs8, ← hji9, ← hjs12]; first | rfl | (simp [errW_none, errW_some] <;> rfl)) | (simp [*, errW_none, errW_some] <;> rfl), by repeat (first | (with_reducible first | exact HB.out | apply below_alloc | apply pw_below_drewN | apply below_drew1 | refine below_set ?_ GE395.out | refine below_set ?_ GE396.out) | exact HB.out)⟩
   replace c24 := Bool.eq_false_iff.mpr c24
   subst c24
   have H1 : (if js8.size + t401.size ≤ 9223372036854775807 then (if (js8 ++ t401).size + js12.size ≤ 9223372036854775807 then ((col_Get.f kj13 ((js8 ++ t401) ++ js12) (js8.size : Int)).bind fun bt405 => (if (t401.size : Int) = 0 then (none) else (if 0 ≤ (Int.tmod (wrap64 (a2)) (t401.size : Int)) then (if (Int.tmod (wrap64 (a2)) (t401.size : Int)) ≤ (t401.size : Int) then (if js8.size + (t401.extract 0 ((Int.tmod (wrap64 (a2)) (t401.size : Int)) : Int).toNat).size ≤ 9223372036854775807 then ((col_Get.f kj13 (js8 ++ (t401.extract 0 ((Int.tmod (wrap64 (a2)) (t401.size : Int)) : Int).toNat)) (js8.size : Int)).bind fun bt412 => (if (bt405.1 == t397 && (bt405.2.1 == t398 && (bt405.2.2.1 == t399 && (bt405.2.2.2.1.toList == t400.toList)))) = true then (if bt405.2.2.2.2.1 = (wrap64 ((js8.size : Int) + (t401.size : Int))) then (if bt405.2.2.2.2.2 = 0 then (if bt412.2.2.2.2.2 = 7 then ((withylaw03_fixed.f kj13).bind fun t419 => (some t419)) else (none)) else (none)) else (none)) else (none))) else (none)) else (none)) else (none)))) else (none)) else (none)) = some r := by rw [if_neg (show ¬ (false = true) by decide)] at H; exact H
   clear H
   have H := H1
   clear H1
   by_cases c34 : js8.size + t401.size ≤ 9223372036854775807
   rotate_left
   ·rw [if_neg c34] at H
    exact absurd H (by simp)
   rw [if_pos c34] at H
   have c34b0 := eq_true c34
   have c34b1 : decide (js8.size + t401.size ≤ 9223372036854775807) = true := decide_eq_true c34
   try have c34b2 : (9223372036854775807 < js8.size + t401.size) = False := eq_false (Nat.not_lt.2 c34)
   obtain ⟨js35, hjs35⟩ : ∃ j_ : ByteArray, (js8 ++ t401) = j_ := ⟨_, rfl⟩
   replace H : (if (js35).size + js12.size ≤ 9223372036854775807 then ((col_Get.f kj13 ((js35) ++ js12) (js8.size : Int)).bind fun bt405 => (if (t401.size : Int) = 0 then (none) else (if 0 ≤ (Int.tmod (wrap64 (a2)) (t401.size : Int)) then (if (Int.tmod (wrap64 (a2)) (t401.size : Int)) ≤ (t401.size : Int) then (if js8.size + (t401.extract 0 ((Int.tmod (wrap64 (a2)) (t401.size : Int)) : Int).toNat).size ≤ 9223372036854775807 then ((col_Get.f kj13 (js8 ++ (t401.extract 0 ((Int.tmod (wrap64 (a2)) (t401.size : Int)) : Int).toNat)) (js8.size : Int)).bind fun bt412 => (if (bt405.1 == t397 && (bt405.2.1 == t398 && (bt405.2.2.1 == t399 && (bt405.2.2.2.1.toList == t400.toList)))) = true then (if bt405.2.2.2.2.1 = (wrap64 ((js8.size : Int) + (t401.size : Int))) then (if bt405.2.2.2.2.2 = 0 then (if bt412.2.2.2.2.2 = 7 then ((withylaw03_fixed.f kj13).bind fun t419 => (some t419)) else (none)) else (none)) else (none)) else (none))) else (none)) else (none)) else (none)))) else (none)) = some r := by first | (rw [hjs35] at H; exact H) | (simp only [hjs35] at H ⊢; exact H)
   by_cases c36 : (js35).size + js12.size ≤ 9223372036854775807
   rotate_left
   ·rw [if_neg c36] at H
    exact absurd H (by simp)
   rw [if_pos c36] at H
   have c36b0 := eq_true c36
   have c36b1 : decide ((js35).size + js12.size ≤ 9223372036854775807) = true := decide_eq_true c36
   try have c36b2 : (9223372036854775807 < (js35).size + js12.size) = False := eq_false (Nat.not_lt.2 c36)
   obtain ⟨js37, hjs37⟩ : ∃ j_ : ByteArray, ((js35) ++ js12) = j_ := ⟨_, rfl⟩
   replace H : ((col_Get.f kj13 (js37) (js8.size : Int)).bind fun bt405 => (if (t401.size : Int) = 0 then (none) else (if 0 ≤ (Int.tmod (wrap64 (a2)) (t401.size : Int)) then (if (Int.tmod (wrap64 (a2)) (t401.size : Int)) ≤ (t401.size : Int) then (if js8.size + (t401.extract 0 ((Int.tmod (wrap64 (a2)) (t401.size : Int)) : Int).toNat).size ≤ 9223372036854775807 then ((col_Get.f kj13 (js8 ++ (t401.extract 0 ((Int.tmod (wrap64 (a2)) (t401.size : Int)) : Int).toNat)) (js8.size : Int)).bind fun bt412 => (if (bt405.1 == t397 && (bt405.2.1 == t398 && (bt405.2.2.1 == t399 && (bt405.2.2.2.1.toList == t400.toList)))) = true then (if bt405.2.2.2.2.1 = (wrap64 ((js8.size : Int) + (t401.size : Int))) then (if bt405.2.2.2.2.2 = 0 then (if bt412.2.2.2.2.2 = 7 then ((withylaw03_fixed.f kj13).bind fun t419 => (some t419)) else (none)) else (none)) else (none)) else (none))) else (none)) else (none)) else (none)))) = some r := by first | (rw [hjs37] at H; exact H) | (simp only [hjs37] at H ⊢; exact H)
   replace H := bM H
   obtain ⟨⟨t405, t406, t407, t408, t409, t410⟩, A380, H⟩ := H
   replace H : (if (t401.size : Int) = 0 then (none) else (if 0 ≤ (Int.tmod (wrap64 (a2)) (t401.size : Int)) then (if (Int.tmod (wrap64 (a2)) (t401.size : Int)) ≤ (t401.size : Int) then (if js8.size + (t401.extract 0 ((Int.tmod (wrap64 (a2)) (t401.size : Int)) : Int).toNat).size ≤ 9223372036854775807 then ((col_Get.f kj13 (js8 ++ (t401.extract 0 ((Int.tmod (wrap64 (a2)) (t401.size : Int)) : Int).toNat)) (js8.size : Int)).bind fun bt412 => (if (t405 == t397 && (t406 == t398 && (t407 == t399 && (t408.toList == t400.toList)))) = true then (if t409 = (wrap64 ((js8.size : Int) + (t401.size : Int))) then (if t410 = 0 then (if bt412.2.2.2.2.2 = 7 then ((withylaw03_fixed.f kj13).bind fun t419 => (some t419)) else (none)) else (none)) else (none)) else (none))) else (none)) else (none)) else (none))) = some r := H
   have A38 := Aside0.mk A380
   clear A380
   by_cases c39 : (t401.size : Int) = 0
   ·rw [if_pos c39] at H
    exact absurd H (by simp)
   rw [if_neg c39] at H
   have c39b0 : ((t401.size : Int) == 0) = false := beq_eq_false_iff_ne.mpr c39
   have c39b1 : ((t401.size : Int) != 0) = true := bne_iff_ne.mpr c39
   obtain ⟨ji40, hji40⟩ : ∃ j_ : Int, (Int.tmod (wrap64 (a2)) (t401.size : Int)) = j_ := ⟨_, rfl⟩
   replace H : (if 0 ≤ (ji40) then (if (ji40) ≤ (t401.size : Int) then (if js8.size + (t401.extract 0 ((ji40) : Int).toNat).size ≤ 9223372036854775807 then ((col_Get.f kj13 (js8 ++ (t401.extract 0 ((ji40) : Int).toNat)) (js8.size : Int)).bind fun bt412 => (if (t405 == t397 && (t406 == t398 && (t407 == t399 && (t408.toList == t400.toList)))) = true then (if t409 = (wrap64 ((js8.size : Int) + (t401.size : Int))) then (if t410 = 0 then (if bt412.2.2.2.2.2 = 7 then ((withylaw03_fixed.f kj13).bind fun t419 => (some t419)) else (none)) else (none)) else (none)) else (none))) else (none)) else (none)) else (none)) = some r := by first | (rw [hji40] at H; exact H) | (simp only [hji40] at H ⊢; exact H)
   (try rw [hji40] at A38)
   by_cases c41 : 0 ≤ (ji40)
   rotate_left
   ·rw [if_neg c41] at H
    exact absurd H (by simp)
   rw [if_pos c41] at H
   have c41b0 := eq_true c41
   have c41b1 : decide (0 ≤ (ji40)) = true := decide_eq_true c41
   clear c41
   by_cases c42 : (ji40) ≤ (t401.size : Int)
   rotate_left
   ·rw [if_neg c42] at H
    exact absurd H (by simp)
   rw [if_pos c42] at H
   have c42b0 := eq_true c42
   have c42b1 : decide ((ji40) ≤ (t401.size : Int)) = true := decide_eq_true c42
   clear c42
   obtain ⟨js43, hjs43⟩ : ∃ j_ : ByteArray, (t401.extract 0 ((ji40) : Int).toNat) = j_ := ⟨_, rfl⟩
   replace H : (if js8.size + (js43).size ≤ 9223372036854775807 then ((col_Get.f kj13 (js8 ++ (js43)) (js8.size : Int)).bind fun bt412 => (if (t405 == t397 && (t406 == t398 && (t407 == t399 && (t408.toList == t400.toList)))) = true then (if t409 = (wrap64 ((js8.size : Int) + (t401.size : Int))) then (if t410 = 0 then (if bt412.2.2.2.2.2 = 7 then ((withylaw03_fixed.f kj13).bind fun t419 => (some t419)) else (none)) else (none)) else (none)) else (none))) else (none)) = some r := by first | (rw [hjs43] at H; exact H) | (simp only [hjs43] at H ⊢; exact H)
   (try rw [hjs43] at A38)
   by_cases c44 : js8.size + (js43).size ≤ 9223372036854775807
   rotate_left
   ·rw [if_neg c44] at H
    exact absurd H (by simp)
   rw [if_pos c44] at H
   have c44b0 := eq_true c44
   have c44b1 : decide (js8.size + (js43).size ≤ 9223372036854775807) = true := decide_eq_true c44
   try have c44b2 : (9223372036854775807 < js8.size + (js43).size) = False := eq_false (Nat.not_lt.2 c44)
   obtain ⟨js45, hjs45⟩ : ∃ j_ : ByteArray, (js8 ++ (js43)) = j_ := ⟨_, rfl⟩
   replace H : ((col_Get.f kj13 (js45) (js8.size : Int)).bind fun bt412 => (if (t405 == t397 && (t406 == t398 && (t407 == t399 && (t408.toList == t400.toList)))) = true then (if t409 = (wrap64 ((js8.size : Int) + (t401.size : Int))) then (if t410 = 0 then (if bt412.2.2.2.2.2 = 7 then ((withylaw03_fixed.f kj13).bind fun t419 => (some t419)) else (none)) else (none)) else (none)) else (none))) = some r := by first | (rw [hjs45] at H; exact H) | (simp only [hjs45] at H ⊢; exact H)
   (try rw [hjs45] at A38)
   replace H := bM H
   obtain ⟨⟨t412, t413, t414, t415, t416, t417⟩, A460, H⟩ := H
   replace H : (if (t405 == t397 && (t406 == t398 && (t407 == t399 && (t408.toList == t400.toList)))) = true then (if t409 = (wrap64 ((js8.size : Int) + (t401.size : Int))) then (if t410 = 0 then (if t417 = 7 then ((withylaw03_fixed.f kj13).bind fun t419 => (some t419)) else (none)) else (none)) else (none)) else (none)) = some r := H
   have A46 := Aside0.mk A460
   clear A460
   by_cases c47 : (t405 == t397 && (t406 == t398 && (t407 == t399 && (t408.toList == t400.toList)))) = true
   rotate_left
   ·rw [if_neg c47] at H
    exact absurd H (by simp)
   rw [if_pos c47] at H
   have c47b0 : (t405 == t397 && (t406 == t398 && (t407 == t399 && (t408.toList == t400.toList)))) = true := c47
   (try (have c47b8 : (t405 = t397 ∧ t406 = t398 ∧ t407 = t399 ∧ t408.toList = t400.toList) = True := eq_true (by simpa using c47)))
   (try (have c47b1 : t405 = t397 && (t406 == t398 && (t407 == t399 && (t408.toList == t400.toList))) := by simpa using c47))
   (try (have c47b2 : decide (t405 = t397 && (t406 == t398 && (t407 == t399 && (t408.toList == t400.toList)))) = true := by simpa using c47))
   (try (have c47b3 : (t405 == t397 && (t406 == t398 && (t407 == t399 && (t408.toList == t400.toList)))) = true := by simpa using c47))
   clear c47
   by_cases c48 : t409 = (wrap64 ((js8.size : Int) + (t401.size : Int)))
   rotate_left
   ·rw [if_neg c48] at H
    exact absurd H (by simp)
   rw [if_pos c48] at H
   have c48b0 : (t409 == (wrap64 ((js8.size : Int) + (t401.size : Int)))) = true := beq_iff_eq.mpr c48
   have c48d0 : (t409 == (js8.size : Int) + (t401.size : Int)) = true := by have h_ := of_decide_eq_true c34b1; have e_ : wrap64 ((js8.size : Int) + (t401.size : Int)) = (js8.size : Int) + (t401.size : Int) := (by unfold wrap64; omega); rw [e_] at c48b0; exact c48b0
   (try (have c48d1 : (t409 = (js8.size : Int) + (t401.size : Int)) = True := eq_true (by simpa using c48d0)))
   have c48b1 : (t409 != (wrap64 ((js8.size : Int) + (t401.size : Int)))) = false := bne_eq_false_iff_eq.mpr c48
   clear c48
   by_cases c49 : t410 = 0
   rotate_left
   ·rw [if_neg c49] at H
    exact absurd H (by simp)
   rw [if_pos c49] at H
   have c49b0 : (t410 == 0) = true := beq_iff_eq.mpr c49
   have c49b1 : (t410 != 0) = false := bne_eq_false_iff_eq.mpr c49
   clear c49
   by_cases c50 : t417 = 7
   rotate_left
   ·rw [if_neg c50] at H
    exact absurd H (by simp)
   rw [if_pos c50] at H
   have c50b0 : (t417 == 7) = true := beq_iff_eq.mpr c50
   have c50b1 : (t417 != 7) = false := bne_eq_false_iff_eq.mpr c50
   clear c50
   replace H := bM H
   obtain ⟨t419, A510, H⟩ := H
   replace H : (some t419) = some r := H
   have A51 := Aside0.mk A510
   clear A510
   obtain rfl := Option.some.inj H
   go_wp2_with (first | (go_at_call 13; (with_reducible refine (col_Get.calls kj13 js37 (js8.size : Int) t405 t406 t407 t408 t409 t410 _ A38.out).mono ?_); rintro e w52 ⟨rfl, hb⟩; replace BK395 := bb BK395 hb; replace BK396 := bb BK396 hb; replace HB := as_ (below_step bA hb); (try clear hb); (try clear hb2); (try clear hk); (try clear hi)) | ((with_reducible refine gate_dst (N := 11) rfl ?_); (try (refine gate_guard (by rfl) ?_; dsimp only)); refine box_event ?hg (N := 11) ?hd (cs := #[.int .i64 0, .int .i64 0, .int .u64 0, .string (⟨#[]⟩ : ByteArray)]) (t := 24) ?hr ?_; (case hd => rfl); (case hg => rfl); (case hr => first | (go_simp; done) | (go_simp; rfl)); intro gb411 hg w53 hbox hb; have BK411 := as_ (hbox); have GW411 := gw hg bA; have GE411 := gw hg bA; have NB395_411 := nl BK395 hg; have NB411_395 := ng BK395 hg; have NB396_411 := nl BK396 hg; have NB411_396 := ng BK396 hg; replace BK395 := bb BK395 hb; replace BK396 := bb BK396 hb; replace HB := as_ (below_step bA hb); clear hb hbox hg; have hnb54 := NB411_395.out; have hnc54 := NB395_411.out; have hnb55 := NB411_396.out; have hnc55 := NB396_411.out; obtain ⟨hcz56_0, hcz56_1, hcz56_2, hcz56_3⟩ := zc4 BK411; obtain ⟨hfz56_0, hfz56_1, hfz56_2, hfz56_3⟩ := zf4 BK411) | (go_at_call 13; (with_reducible refine (col_Get.calls kj13 js45 (js8.size : Int) t412 t413 t414 t415 t416 t417 _ A46.out).mono ?_); rintro e w57 ⟨rfl, hb⟩; replace BK395 := as_ (blk_below (g := gb395) (o := .cells #[.int .i64 t397, .int .i64 t398, .int .u64 t399, .string t400] 24 (0, 0)) (by refine bx ?_; refine blk_far ?_ NB395_411.out _; refine bx ?_; refine blk_far ?_ NB395_411.out _; refine bx ?_; refine blk_far ?_ NB395_411.out _; refine bx ?_; refine blk_far ?_ NB395_411.out _; refine bx ?_; exact BK395.out) hb); replace BK396 := as_ (blk_below (g := gb396) (o := .cells #[.string a1_0, .string a1_1] 44 (0, 0)) (by refine bx ?_; refine blk_far ?_ NB396_411.out _; refine bx ?_; refine blk_far ?_ NB396_411.out _; refine bx ?_; refine blk_far ?_ NB396_411.out _; refine bx ?_; refine blk_far ?_ NB396_411.out _; refine bx ?_; exact BK396.out) hb); replace BK411 := as_ (blk_below (g := gb411) (o := .cells #[.int .i64 t405, .int .i64 t406, .int .u64 t407, .string t408] 24 (0, 0)) (by refine bx ?_; refine blk_put (cs := #[.int .i64 t405, .int .i64 t406, .int .u64 t407, .string (⟨#[]⟩ : ByteArray)]) ?_ 3 _ rfl; refine bx ?_; refine blk_put (cs := #[.int .i64 t405, .int .i64 t406, .int .u64 0, .string (⟨#[]⟩ : ByteArray)]) ?_ 2 _ rfl; refine bx ?_; refine blk_put (cs := #[.int .i64 t405, .int .i64 0, .int .u64 0, .string (⟨#[]⟩ : ByteArray)]) ?_ 1 _ rfl; refine bx ?_; refine blk_put (cs := #[.int .i64 0, .int .i64 0, .int .u64 0, .string (⟨#[]⟩ : ByteArray)]) ?_ 0 _ rfl; refine bx ?_; exact BK411.out) hb); replace HB := as_ (below_step bA hb); (try clear hb); (try clear hb2); (try clear hk); (try clear hi)) | ((with_reducible refine gate_dst (N := 14) rfl ?_); (try (refine gate_guard (by rfl) ?_; dsimp only)); refine box_event ?hg (N := 14) ?hd (cs := #[.int .i64 0, .int .i64 0, .int .u64 0, .string (⟨#[]⟩ : ByteArray)]) (t := 24) ?hr ?_; (case hd => rfl); (case hg => rfl); (case hr => first | (go_simp; done) | (go_simp; rfl)); intro gb418 hg w58 hbox hb; have BK418 := as_ (hbox); have GW418 := gw hg bA; have GE418 := gw hg bA; have NB395_418 := nl BK395 hg; have NB418_395 := ng BK395 hg; have NB396_418 := nl BK396 hg; have NB418_396 := ng BK396 hg; have NB411_418 := nl BK411 hg; have NB418_411 := ng BK411 hg; replace BK395 := bb BK395 hb; replace BK396 := bb BK396 hb; replace BK411 := bb BK411 hb; replace HB := as_ (below_step bA hb); clear hb hbox hg; have hnb59 := NB418_395.out; have hnc59 := NB395_418.out; have hnb60 := NB418_396.out; have hnc60 := NB396_418.out; have hnb61 := NB418_411.out; have hnc61 := NB411_418.out; obtain ⟨hcz62_0, hcz62_1, hcz62_2, hcz62_3⟩ := zc4 BK418; obtain ⟨hfz62_0, hfz62_1, hfz62_2, hfz62_3⟩ := zf4 BK418; obtain ⟨hcz63_0, hcz63_1, hcz63_2, hcz63_3⟩ := zc4 BK411; obtain ⟨hfz63_0, hfz63_1, hfz63_2, hfz63_3⟩ := zf4 BK411; have hnb64 := NB395_396.out; have hnc64 := NB396_395.out; obtain ⟨hcz65_0, hcz65_1, hcz65_2, hcz65_3⟩ := zc4 BK395; obtain ⟨hfz65_0, hfz65_1, hfz65_2, hfz65_3⟩ := zf4 BK395) | (go_at_call 19; (with_reducible refine (withylaw03_fixed.calls kj13  t419 _ A51.out).mono ?_); rintro e w66 ⟨rfl, hb⟩; replace BK395 := as_ (blk_below (g := gb395) (o := .cells #[.int .i64 t397, .int .i64 t398, .int .u64 t399, .string t400] 24 (0, 0)) (by refine bx ?_; refine blk_far ?_ NB395_418.out _; refine bx ?_; refine blk_far ?_ NB395_418.out _; refine bx ?_; refine blk_far ?_ NB395_418.out _; refine bx ?_; refine blk_far ?_ NB395_418.out _; refine bx ?_; exact BK395.out) hb); replace BK396 := as_ (blk_below (g := gb396) (o := .cells #[.string a1_0, .string a1_1] 44 (0, 0)) (by refine bx ?_; refine blk_far ?_ NB396_418.out _; refine bx ?_; refine blk_far ?_ NB396_418.out _; refine bx ?_; refine blk_far ?_ NB396_418.out _; refine bx ?_; refine blk_far ?_ NB396_418.out _; refine bx ?_; exact BK396.out) hb); replace BK411 := as_ (blk_below (g := gb411) (o := .cells #[.int .i64 t405, .int .i64 t406, .int .u64 t407, .string t408] 24 (0, 0)) (by refine bx ?_; refine blk_far ?_ NB411_418.out _; refine bx ?_; refine blk_far ?_ NB411_418.out _; refine bx ?_; refine blk_far ?_ NB411_418.out _; refine bx ?_; refine blk_far ?_ NB411_418.out _; refine bx ?_; exact BK411.out) hb); replace BK418 := as_ (blk_below (g := gb418) (o := .cells #[.int .i64 t412, .int .i64 t413, .int .u64 t414, .string t415] 24 (0, 0)) (by refine bx ?_; refine blk_put (cs := #[.int .i64 t412, .int .i64 t413, .int .u64 t414, .string (⟨#[]⟩ : ByteArray)]) ?_ 3 _ rfl; refine bx ?_; refine blk_put (cs := #[.int .i64 t412, .int .i64 t413, .int .u64 0, .string (⟨#[]⟩ : ByteArray)]) ?_ 2 _ rfl; refine bx ?_; refine blk_put (cs := #[.int .i64 t412, .int .i64 0, .int .u64 0, .string (⟨#[]⟩ : ByteArray)]) ?_ 1 _ rfl; refine bx ?_; refine blk_put (cs := #[.int .i64 0, .int .i64 0, .int .u64 0, .string (⟨#[]⟩ : ByteArray)]) ?_ 0 _ rfl; refine bx ?_; exact BK418.out) hb); replace HB := as_ (below_step bA hb); (try clear hb); (try clear hb2); (try clear hk); (try clear hi)))
   repeat (go_quiet (first | (go_at_call 13; (with_reducible refine (col_Get.calls kj13 js37 (js8.size : Int) t405 t406 t407 t408 t409 t410 _ A38.out).mono ?_); rintro e w52 ⟨rfl, hb⟩; replace BK395 := bb BK395 hb; replace BK396 := bb BK396 hb; replace HB := as_ (below_step bA hb); (try clear hb); (try clear hb2); (try clear hk); (try clear hi)) | ((with_reducible refine gate_dst (N := 11) rfl ?_); (try (refine gate_guard (by rfl) ?_; dsimp only)); refine box_event ?hg (N := 11) ?hd (cs := #[.int .i64 0, .int .i64 0, .int .u64 0, .string (⟨#[]⟩ : ByteArray)]) (t := 24) ?hr ?_; (case hd => rfl); (case hg => rfl); (case hr => first | (go_simp; done) | (go_simp; rfl)); intro gb411 hg w53 hbox hb; have BK411 := as_ (hbox); have GW411 := gw hg bA; have GE411 := gw hg bA; have NB395_411 := nl BK395 hg; have NB411_395 := ng BK395 hg; have NB396_411 := nl BK396 hg; have NB411_396 := ng BK396 hg; replace BK395 := bb BK395 hb; replace BK396 := bb BK396 hb; replace HB := as_ (below_step bA hb); clear hb hbox hg; have hnb54 := NB411_395.out; have hnc54 := NB395_411.out; have hnb55 := NB411_396.out; have hnc55 := NB396_411.out; obtain ⟨hcz56_0, hcz56_1, hcz56_2, hcz56_3⟩ := zc4 BK411; obtain ⟨hfz56_0, hfz56_1, hfz56_2, hfz56_3⟩ := zf4 BK411) | (go_at_call 13; (with_reducible refine (col_Get.calls kj13 js45 (js8.size : Int) t412 t413 t414 t415 t416 t417 _ A46.out).mono ?_); rintro e w57 ⟨rfl, hb⟩; replace BK395 := as_ (blk_below (g := gb395) (o := .cells #[.int .i64 t397, .int .i64 t398, .int .u64 t399, .string t400] 24 (0, 0)) (by refine bx ?_; refine blk_far ?_ NB395_411.out _; refine bx ?_; refine blk_far ?_ NB395_411.out _; refine bx ?_; refine blk_far ?_ NB395_411.out _; refine bx ?_; refine blk_far ?_ NB395_411.out _; refine bx ?_; exact BK395.out) hb); replace BK396 := as_ (blk_below (g := gb396) (o := .cells #[.string a1_0, .string a1_1] 44 (0, 0)) (by refine bx ?_; refine blk_far ?_ NB396_411.out _; refine bx ?_; refine blk_far ?_ NB396_411.out _; refine bx ?_; refine blk_far ?_ NB396_411.out _; refine bx ?_; refine blk_far ?_ NB396_411.out _; refine bx ?_; exact BK396.out) hb); replace BK411 := as_ (blk_below (g := gb411) (o := .cells #[.int .i64 t405, .int .i64 t406, .int .u64 t407, .string t408] 24 (0, 0)) (by refine bx ?_; refine blk_put (cs := #[.int .i64 t405, .int .i64 t406, .int .u64 t407, .string (⟨#[]⟩ : ByteArray)]) ?_ 3 _ rfl; refine bx ?_; refine blk_put (cs := #[.int .i64 t405, .int .i64 t406, .int .u64 0, .string (⟨#[]⟩ : ByteArray)]) ?_ 2 _ rfl; refine bx ?_; refine blk_put (cs := #[.int .i64 t405, .int .i64 0, .int .u64 0, .string (⟨#[]⟩ : ByteArray)]) ?_ 1 _ rfl; refine bx ?_; refine blk_put (cs := #[.int .i64 0, .int .i64 0, .int .u64 0, .string (⟨#[]⟩ : ByteArray)]) ?_ 0 _ rfl; refine bx ?_; exact BK411.out) hb); replace HB := as_ (below_step bA hb); (try clear hb); (try clear hb2); (try clear hk); (try clear hi)) | ((with_reducible refine gate_dst (N := 14) rfl ?_); (try (refine gate_guard (by rfl) ?_; dsimp only)); refine box_event ?hg (N := 14) ?hd (cs := #[.int .i64 0, .int .i64 0, .int .u64 0, .string (⟨#[]⟩ : ByteArray)]) (t := 24) ?hr ?_; (case hd => rfl); (case hg => rfl); (case hr => first | (go_simp; done) | (go_simp; rfl)); intro gb418 hg w58 hbox hb; have BK418 := as_ (hbox); have GW418 := gw hg bA; have GE418 := gw hg bA; have NB395_418 := nl BK395 hg; have NB418_395 := ng BK395 hg; have NB396_418 := nl BK396 hg; have NB418_396 := ng BK396 hg; have NB411_418 := nl BK411 hg; have NB418_411 := ng BK411 hg; replace BK395 := bb BK395 hb; replace BK396 := bb BK396 hb; replace BK411 := bb BK411 hb; replace HB := as_ (below_step bA hb); clear hb hbox hg; have hnb59 := NB418_395.out; have hnc59 := NB395_418.out; have hnb60 := NB418_396.out; have hnc60 := NB396_418.out; have hnb61 := NB418_411.out; have hnc61 := NB411_418.out; obtain ⟨hcz62_0, hcz62_1, hcz62_2, hcz62_3⟩ := zc4 BK418; obtain ⟨hfz62_0, hfz62_1, hfz62_2, hfz62_3⟩ := zf4 BK418; obtain ⟨hcz63_0, hcz63_1, hcz63_2, hcz63_3⟩ := zc4 BK411; obtain ⟨hfz63_0, hfz63_1, hfz63_2, hfz63_3⟩ := zf4 BK411; have hnb64 := NB395_396.out; have hnc64 := NB396_395.out; obtain ⟨hcz65_0, hcz65_1, hcz65_2, hcz65_3⟩ := zc4 BK395; obtain ⟨hfz65_0, hfz65_1, hfz65_2, hfz65_3⟩ := zf4 BK395) | (go_at_call 19; (with_reducible refine (withylaw03_fixed.calls kj13  t419 _ A51.out).mono ?_); rintro e w66 ⟨rfl, hb⟩; replace BK395 := as_ (blk_below (g := gb395) (o := .cells #[.int .i64 t397, .int .i64 t398, .int .u64 t399, .string t400] 24 (0, 0)) (by refine bx ?_; refine blk_far ?_ NB395_418.out _; refine bx ?_; refine blk_far ?_ NB395_418.out _; refine bx ?_; refine blk_far ?_ NB395_418.out _; refine bx ?_; refine blk_far ?_ NB395_418.out _; refine bx ?_; exact BK395.out) hb); replace BK396 := as_ (blk_below (g := gb396) (o := .cells #[.string a1_0, .string a1_1] 44 (0, 0)) (by refine bx ?_; refine blk_far ?_ NB396_418.out _; refine bx ?_; refine blk_far ?_ NB396_418.out _; refine bx ?_; refine blk_far ?_ NB396_418.out _; refine bx ?_; refine blk_far ?_ NB396_418.out _; refine bx ?_; exact BK396.out) hb); replace BK411 := as_ (blk_below (g := gb411) (o := .cells #[.int .i64 t405, .int .i64 t406, .int .u64 t407, .string t408] 24 (0, 0)) (by refine bx ?_; refine blk_far ?_ NB411_418.out _; refine bx ?_; refine blk_far ?_ NB411_418.out _; refine bx ?_; refine blk_far ?_ NB411_418.out _; refine bx ?_; refine blk_far ?_ NB411_418.out _; refine bx ?_; exact BK411.out) hb); replace BK418 := as_ (blk_below (g := gb418) (o := .cells #[.int .i64 t412, .int .i64 t413, .int .u64 t414, .string t415] 24 (0, 0)) (by refine bx ?_; refine blk_put (cs := #[.int .i64 t412, .int .i64 t413, .int .u64 t414, .string (⟨#[]⟩ : ByteArray)]) ?_ 3 _ rfl; refine bx ?_; refine blk_put (cs := #[.int .i64 t412, .int .i64 t413, .int .u64 0, .string (⟨#[]⟩ : ByteArray)]) ?_ 2 _ rfl; refine bx ?_; refine blk_put (cs := #[.int .i64 t412, .int .i64 0, .int .u64 0, .string (⟨#[]⟩ : ByteArray)]) ?_ 1 _ rfl; refine bx ?_; refine blk_put (cs := #[.int .i64 0, .int .i64 0, .int .u64 0, .string (⟨#[]⟩ : ByteArray)]) ?_ 0 _ rfl; refine bx ?_; exact BK418.out) hb); replace HB := as_ (below_step bA hb); (try clear hb); (try clear hb2); (try clear hk); (try clear hi))); try go_wp2_with (first | (go_at_call 13; (with_reducible refine (col_Get.calls kj13 js37 (js8.size : Int) t405 t406 t407 t408 t409 t410 _ A38.out).mono ?_); rintro e w52 ⟨rfl, hb⟩; replace BK395 := bb BK395 hb; replace BK396 := bb BK396 hb; replace HB := as_ (below_step bA hb); (try clear hb); (try clear hb2); (try clear hk); (try clear hi)) | ((with_reducible refine gate_dst (N := 11) rfl ?_); (try (refine gate_guard (by rfl) ?_; dsimp only)); refine box_event ?hg (N := 11) ?hd (cs := #[.int .i64 0, .int .i64 0, .int .u64 0, .string (⟨#[]⟩ : ByteArray)]) (t := 24) ?hr ?_; (case hd => rfl); (case hg => rfl); (case hr => first | (go_simp; done) | (go_simp; rfl)); intro gb411 hg w53 hbox hb; have BK411 := as_ (hbox); have GW411 := gw hg bA; have GE411 := gw hg bA; have NB395_411 := nl BK395 hg; have NB411_395 := ng BK395 hg; have NB396_411 := nl BK396 hg; have NB411_396 := ng BK396 hg; replace BK395 := bb BK395 hb; replace BK396 := bb BK396 hb; replace HB := as_ (below_step bA hb); clear hb hbox hg; have hnb54 := NB411_395.out; have hnc54 := NB395_411.out; have hnb55 := NB411_396.out; have hnc55 := NB396_411.out; obtain ⟨hcz56_0, hcz56_1, hcz56_2, hcz56_3⟩ := zc4 BK411; obtain ⟨hfz56_0, hfz56_1, hfz56_2, hfz56_3⟩ := zf4 BK411) | (go_at_call 13; (with_reducible refine (col_Get.calls kj13 js45 (js8.size : Int) t412 t413 t414 t415 t416 t417 _ A46.out).mono ?_); rintro e w57 ⟨rfl, hb⟩; replace BK395 := as_ (blk_below (g := gb395) (o := .cells #[.int .i64 t397, .int .i64 t398, .int .u64 t399, .string t400] 24 (0, 0)) (by refine bx ?_; refine blk_far ?_ NB395_411.out _; refine bx ?_; refine blk_far ?_ NB395_411.out _; refine bx ?_; refine blk_far ?_ NB395_411.out _; refine bx ?_; refine blk_far ?_ NB395_411.out _; refine bx ?_; exact BK395.out) hb); replace BK396 := as_ (blk_below (g := gb396) (o := .cells #[.string a1_0, .string a1_1] 44 (0, 0)) (by refine bx ?_; refine blk_far ?_ NB396_411.out _; refine bx ?_; refine blk_far ?_ NB396_411.out _; refine bx ?_; refine blk_far ?_ NB396_411.out _; refine bx ?_; refine blk_far ?_ NB396_411.out _; refine bx ?_; exact BK396.out) hb); replace BK411 := as_ (blk_below (g := gb411) (o := .cells #[.int .i64 t405, .int .i64 t406, .int .u64 t407, .string t408] 24 (0, 0)) (by refine bx ?_; refine blk_put (cs := #[.int .i64 t405, .int .i64 t406, .int .u64 t407, .string (⟨#[]⟩ : ByteArray)]) ?_ 3 _ rfl; refine bx ?_; refine blk_put (cs := #[.int .i64 t405, .int .i64 t406, .int .u64 0, .string (⟨#[]⟩ : ByteArray)]) ?_ 2 _ rfl; refine bx ?_; refine blk_put (cs := #[.int .i64 t405, .int .i64 0, .int .u64 0, .string (⟨#[]⟩ : ByteArray)]) ?_ 1 _ rfl; refine bx ?_; refine blk_put (cs := #[.int .i64 0, .int .i64 0, .int .u64 0, .string (⟨#[]⟩ : ByteArray)]) ?_ 0 _ rfl; refine bx ?_; exact BK411.out) hb); replace HB := as_ (below_step bA hb); (try clear hb); (try clear hb2); (try clear hk); (try clear hi)) | ((with_reducible refine gate_dst (N := 14) rfl ?_); (try (refine gate_guard (by rfl) ?_; dsimp only)); refine box_event ?hg (N := 14) ?hd (cs := #[.int .i64 0, .int .i64 0, .int .u64 0, .string (⟨#[]⟩ : ByteArray)]) (t := 24) ?hr ?_; (case hd => rfl); (case hg => rfl); (case hr => first | (go_simp; done) | (go_simp; rfl)); intro gb418 hg w58 hbox hb; have BK418 := as_ (hbox); have GW418 := gw hg bA; have GE418 := gw hg bA; have NB395_418 := nl BK395 hg; have NB418_395 := ng BK395 hg; have NB396_418 := nl BK396 hg; have NB418_396 := ng BK396 hg; have NB411_418 := nl BK411 hg; have NB418_411 := ng BK411 hg; replace BK395 := bb BK395 hb; replace BK396 := bb BK396 hb; replace BK411 := bb BK411 hb; replace HB := as_ (below_step bA hb); clear hb hbox hg; have hnb59 := NB418_395.out; have hnc59 := NB395_418.out; have hnb60 := NB418_396.out; have hnc60 := NB396_418.out; have hnb61 := NB418_411.out; have hnc61 := NB411_418.out; obtain ⟨hcz62_0, hcz62_1, hcz62_2, hcz62_3⟩ := zc4 BK418; obtain ⟨hfz62_0, hfz62_1, hfz62_2, hfz62_3⟩ := zf4 BK418; obtain ⟨hcz63_0, hcz63_1, hcz63_2, hcz63_3⟩ := zc4 BK411; obtain ⟨hfz63_0, hfz63_1, hfz63_2, hfz63_3⟩ := zf4 BK411; have hnb64 := NB395_396.out; have hnc64 := NB396_395.out; obtain ⟨hcz65_0, hcz65_1, hcz65_2, hcz65_3⟩ := zc4 BK395; obtain ⟨hfz65_0, hfz65_1, hfz65_2, hfz65_3⟩ := zf4 BK395) | (go_at_call 19; (with_reducible refine (withylaw03_fixed.calls kj13  t419 _ A51.out).mono ?_); rintro e w66 ⟨rfl, hb⟩; replace BK395 := as_ (blk_below (g := gb395) (o := .cells #[.int .i64 t397, .int .i64 t398, .int .u64 t399, .string t400] 24 (0, 0)) (by refine bx ?_; refine blk_far ?_ NB395_418.out _; refine bx ?_; refine blk_far ?_ NB395_418.out _; refine bx ?_; refine blk_far ?_ NB395_418.out _; refine bx ?_; refine blk_far ?_ NB395_418.out _; refine bx ?_; exact BK395.out) hb); replace BK396 := as_ (blk_below (g := gb396) (o := .cells #[.string a1_0, .string a1_1] 44 (0, 0)) (by refine bx ?_; refine blk_far ?_ NB396_418.out _; refine bx ?_; refine blk_far ?_ NB396_418.out _; refine bx ?_; refine blk_far ?_ NB396_418.out _; refine bx ?_; refine blk_far ?_ NB396_418.out _; refine bx ?_; exact BK396.out) hb); replace BK411 := as_ (blk_below (g := gb411) (o := .cells #[.int .i64 t405, .int .i64 t406, .int .u64 t407, .string t408] 24 (0, 0)) (by refine bx ?_; refine blk_far ?_ NB411_418.out _; refine bx ?_; refine blk_far ?_ NB411_418.out _; refine bx ?_; refine blk_far ?_ NB411_418.out _; refine bx ?_; refine blk_far ?_ NB411_418.out _; refine bx ?_; exact BK411.out) hb); replace BK418 := as_ (blk_below (g := gb418) (o := .cells #[.int .i64 t412, .int .i64 t413, .int .u64 t414, .string t415] 24 (0, 0)) (by refine bx ?_; refine blk_put (cs := #[.int .i64 t412, .int .i64 t413, .int .u64 t414, .string (⟨#[]⟩ : ByteArray)]) ?_ 3 _ rfl; refine bx ?_; refine blk_put (cs := #[.int .i64 t412, .int .i64 t413, .int .u64 0, .string (⟨#[]⟩ : ByteArray)]) ?_ 2 _ rfl; refine bx ?_; refine blk_put (cs := #[.int .i64 t412, .int .i64 0, .int .u64 0, .string (⟨#[]⟩ : ByteArray)]) ?_ 1 _ rfl; refine bx ?_; refine blk_put (cs := #[.int .i64 0, .int .i64 0, .int .u64 0, .string (⟨#[]⟩ : ByteArray)]) ?_ 0 _ rfl; refine bx ?_; exact BK418.out) hb); replace HB := as_ (below_step bA hb); (try clear hb); (try clear hb2); (try clear hk); (try clear hi))))
   go_ret
   exact ⟨by first | rfl | (simp [errW_none, errW_some] <;> rfl) | (simp only [← hji5, ← hjs8, ← hji9, ← hjs12, ← hjs35, ← hjs37, ← hji40, ← hjs43, ← hjs45]; first | rfl | (simp [errW_none, errW_some] <;> rfl)) | (simp [*, errW_none, errW_some] <;> rfl), by repeat (first | (with_reducible first | exact HB.out | apply below_alloc | apply pw_below_drewN | apply below_drew1 | refine below_set ?_ GE395.out | refine below_set ?_ GE396.out | refine below_set ?_ GE411.out | refine below_set ?_ GE418.out) | exact HB.out)⟩
/-! ### withylaw03_ColOnce: function 6 -/
def withylaw03_ColOnce.f (k : Nat) (a0 : ByteArray) (a1 : Int) : Option (Bool) := if 0 ≤ (mn (a0.size : Int) 100) then (if (mn (a0.size : Int) 100) ≤ (a0.size : Int) then ((col_Get.f k (a0.extract 0 ((mn (a0.size : Int) 100) : Int).toNat) a1).bind fun bt420 => (if bt420.2.2.2.2.2 = 0 then ((col_Put.f k bt420.1 bt420.2.1 bt420.2.2.1 bt420.2.2.2.1).bind fun bt427 => (if bt427.2 = 0 then ((col_Right.f k bt420.1 bt420.2.1 bt420.2.2.1 bt420.2.2.2.1).bind fun t429 => (if t429 = true then (if a1 ≥ 0 then (if bt420.2.2.2.2.1 > a1 then (if bt420.2.2.2.2.1 ≤ ((a0.extract 0 ((mn (a0.size : Int) 100) : Int).toNat).size : Int) then (if 0 ≤ a1 then (if a1 ≤ bt420.2.2.2.2.1 then (if bt427.1.toList = ((a0.extract 0 ((mn (a0.size : Int) 100) : Int).toNat).extract (a1 : Int).toNat (bt420.2.2.2.2.1 : Int).toNat).toList then ((withylaw03_fixed.f k).bind fun t430 => (some t430)) else (none)) else (none)) else (none)) else (none)) else (none)) else (none)) else (none))) else (none))) else (if (bt420.1 == 0 && (bt420.2.1 == 0 && (bt420.2.2.1 == 0 && (bt420.2.2.2.1.toList == ([] : List UInt8))))) = true then (if bt420.2.2.2.2.1 = 0 then ((withylaw03_fixed.f k).bind fun t431 => (some t431)) else (none)) else (none)))) else (none)) else (none)
theorem withylaw03_ColOnce.mono : ∀ a0 a1 k, LeO (withylaw03_ColOnce.f k a0 a1) (withylaw03_ColOnce.f (k + 1) a0 a1) := by
 intro a0 a1 k
 unfold withylaw03_ColOnce.f
 repeat' first
   | (with_reducible exact col_Get.mono _ _ _)
   | (with_reducible exact col_Put.mono _ _ _ _ _)
   | (with_reducible exact col_Right.mono _ _ _ _ _)
   | (with_reducible exact withylaw03_fixed.mono _)
   | (with_reducible exact LeO.refl _)
   | (with_reducible exact LeO.none _)
   | (with_reducible refine LeO.ite ?_ ?_)
   | (with_reducible refine LeO.bind ?_ (fun _ => ?_))
   | exact col_Get.mono _ _ _
   | exact col_Put.mono _ _ _ _ _
   | exact col_Right.mono _ _ _ _ _
   | exact withylaw03_fixed.mono _
   | exact LeO.none _
   | refine LeO.ite ?_ ?_
   | refine LeO.bind ?_ (fun _ => ?_)
set_option maxHeartbeats 8000000 in
set_option maxRecDepth 100000 in
theorem withylaw03_ColOnce.calls (k : Nat) (a0 : ByteArray) (a1 : Int) (r : Bool) (w : World) (h : withylaw03_ColOnce.f k a0 a1 = some r) :
  Calls Tryd.prog 6 #[.string a0, .int .i64 a1] w fun e w' => e = .returned (.bool r) ∧ Below w.heap.size w w' := by
 have hu24 := Tryd.underlying24
 have HB := as_ (Below.refl w.heap.size w)
 have H : (if 0 ≤ (mn (a0.size : Int) 100) then (if (mn (a0.size : Int) 100) ≤ (a0.size : Int) then ((col_Get.f k (a0.extract 0 ((mn (a0.size : Int) 100) : Int).toNat) a1).bind fun bt420 => (if bt420.2.2.2.2.2 = 0 then ((col_Put.f k bt420.1 bt420.2.1 bt420.2.2.1 bt420.2.2.2.1).bind fun bt427 => (if bt427.2 = 0 then ((col_Right.f k bt420.1 bt420.2.1 bt420.2.2.1 bt420.2.2.2.1).bind fun t429 => (if t429 = true then (if a1 ≥ 0 then (if bt420.2.2.2.2.1 > a1 then (if bt420.2.2.2.2.1 ≤ ((a0.extract 0 ((mn (a0.size : Int) 100) : Int).toNat).size : Int) then (if 0 ≤ a1 then (if a1 ≤ bt420.2.2.2.2.1 then (if bt427.1.toList = ((a0.extract 0 ((mn (a0.size : Int) 100) : Int).toNat).extract (a1 : Int).toNat (bt420.2.2.2.2.1 : Int).toNat).toList then ((withylaw03_fixed.f k).bind fun t430 => (some t430)) else (none)) else (none)) else (none)) else (none)) else (none)) else (none)) else (none))) else (none))) else (if (bt420.1 == 0 && (bt420.2.1 == 0 && (bt420.2.2.1 == 0 && (bt420.2.2.2.1.toList == ([] : List UInt8))))) = true then (if bt420.2.2.2.2.1 = 0 then ((withylaw03_fixed.f k).bind fun t431 => (some t431)) else (none)) else (none)))) else (none)) else (none)) = some r := h
 clear h
 obtain ⟨ji3, hji3⟩ : ∃ j_ : Int, (mn (a0.size : Int) 100) = j_ := ⟨_, rfl⟩
 replace H : (if 0 ≤ (ji3) then (if (ji3) ≤ (a0.size : Int) then ((col_Get.f k (a0.extract 0 ((ji3) : Int).toNat) a1).bind fun bt420 => (if bt420.2.2.2.2.2 = 0 then ((col_Put.f k bt420.1 bt420.2.1 bt420.2.2.1 bt420.2.2.2.1).bind fun bt427 => (if bt427.2 = 0 then ((col_Right.f k bt420.1 bt420.2.1 bt420.2.2.1 bt420.2.2.2.1).bind fun t429 => (if t429 = true then (if a1 ≥ 0 then (if bt420.2.2.2.2.1 > a1 then (if bt420.2.2.2.2.1 ≤ ((a0.extract 0 ((ji3) : Int).toNat).size : Int) then (if 0 ≤ a1 then (if a1 ≤ bt420.2.2.2.2.1 then (if bt427.1.toList = ((a0.extract 0 ((ji3) : Int).toNat).extract (a1 : Int).toNat (bt420.2.2.2.2.1 : Int).toNat).toList then ((withylaw03_fixed.f k).bind fun t430 => (some t430)) else (none)) else (none)) else (none)) else (none)) else (none)) else (none)) else (none))) else (none))) else (if (bt420.1 == 0 && (bt420.2.1 == 0 && (bt420.2.2.1 == 0 && (bt420.2.2.2.1.toList == ([] : List UInt8))))) = true then (if bt420.2.2.2.2.1 = 0 then ((withylaw03_fixed.f k).bind fun t431 => (some t431)) else (none)) else (none)))) else (none)) else (none)) = some r := by first | (rw [hji3] at H; exact H) | (simp only [hji3] at H ⊢; exact H)
 (try (have hji3h : ji3 ≤ 100 := by (rw [← hji3]; unfold mn; (repeat' split) <;> omega)))
 (try (have hji3g : ji3 ≤ 64 := by omega))
 (try (have hji3l : 0 ≤ ji3 := by (rw [← hji3]; unfold mn; (repeat' split) <;> omega)))
 (try (have hji3m : 0 ≤ ji3 := by omega))
 have hji3_ : (if 100 < (a0.size : Int) then 100 else (a0.size : Int)) = ji3 := hji3
 by_cases c4 : 0 ≤ (ji3)
 rotate_left
 ·rw [if_neg c4] at H
  exact absurd H (by simp)
 
 rw [if_pos c4] at H
 have c4b0 := eq_true c4
 have c4b1 : decide (0 ≤ (ji3)) = true := decide_eq_true c4
 clear c4
 by_cases c5 : (ji3) ≤ (a0.size : Int)
 rotate_left
 ·rw [if_neg c5] at H
  exact absurd H (by simp)
 rw [if_pos c5] at H
 have c5b0 := eq_true c5
 have c5b1 : decide ((ji3) ≤ (a0.size : Int)) = true := decide_eq_true c5
 clear c5
 obtain ⟨js6, hjs6⟩ : ∃ j_ : ByteArray, (a0.extract 0 ((ji3) : Int).toNat) = j_ := ⟨_, rfl⟩
 replace H : ((col_Get.f k (js6) a1).bind fun bt420 => (if bt420.2.2.2.2.2 = 0 then ((col_Put.f k bt420.1 bt420.2.1 bt420.2.2.1 bt420.2.2.2.1).bind fun bt427 => (if bt427.2 = 0 then ((col_Right.f k bt420.1 bt420.2.1 bt420.2.2.1 bt420.2.2.2.1).bind fun t429 => (if t429 = true then (if a1 ≥ 0 then (if bt420.2.2.2.2.1 > a1 then (if bt420.2.2.2.2.1 ≤ ((js6).size : Int) then (if 0 ≤ a1 then (if a1 ≤ bt420.2.2.2.2.1 then (if bt427.1.toList = ((js6).extract (a1 : Int).toNat (bt420.2.2.2.2.1 : Int).toNat).toList then ((withylaw03_fixed.f k).bind fun t430 => (some t430)) else (none)) else (none)) else (none)) else (none)) else (none)) else (none)) else (none))) else (none))) else (if (bt420.1 == 0 && (bt420.2.1 == 0 && (bt420.2.2.1 == 0 && (bt420.2.2.2.1.toList == ([] : List UInt8))))) = true then (if bt420.2.2.2.2.1 = 0 then ((withylaw03_fixed.f k).bind fun t431 => (some t431)) else (none)) else (none)))) = some r := by first | (rw [hjs6] at H; exact H) | (simp only [hjs6] at H ⊢; exact H)
 replace H := bM H
 obtain ⟨⟨t420, t421, t422, t423, t424, t425⟩, A70, H⟩ := H
 replace H : (if t425 = 0 then ((col_Put.f k t420 t421 t422 t423).bind fun bt427 => (if bt427.2 = 0 then ((col_Right.f k t420 t421 t422 t423).bind fun t429 => (if t429 = true then (if a1 ≥ 0 then (if t424 > a1 then (if t424 ≤ ((js6).size : Int) then (if 0 ≤ a1 then (if a1 ≤ t424 then (if bt427.1.toList = ((js6).extract (a1 : Int).toNat (t424 : Int).toNat).toList then ((withylaw03_fixed.f k).bind fun t430 => (some t430)) else (none)) else (none)) else (none)) else (none)) else (none)) else (none)) else (none))) else (none))) else (if (t420 == 0 && (t421 == 0 && (t422 == 0 && (t423.toList == ([] : List UInt8))))) = true then (if t424 = 0 then ((withylaw03_fixed.f k).bind fun t431 => (some t431)) else (none)) else (none))) = some r := H
 have A7 := Aside0.mk A70
 clear A70
 by_cases c8 : t425 = 0
 rotate_left
 ·rw [if_neg c8] at H
  have c8b0 : (t425 == 0) = false := beq_eq_false_iff_ne.mpr c8
  have c8b1 : (t425 != 0) = true := bne_iff_ne.mpr c8
  by_cases c29 : (t420 == 0 && (t421 == 0 && (t422 == 0 && (t423.toList == ([] : List UInt8))))) = true
  rotate_left
  ·rw [if_neg c29] at H
   exact absurd H (by simp)
  rw [if_pos c29] at H
  have c29b0 : (t420 == 0 && (t421 == 0 && (t422 == 0 && (t423.toList == ([] : List UInt8))))) = true := c29
  (try (have c29b8 : (t420 = 0 ∧ t421 = 0 ∧ t422 = 0 ∧ t423.toList = []) = True := eq_true (by simpa using c29)))
  (try (have c29b1 : t420 = 0 && (t421 == 0 && (t422 == 0 && (t423.toList == ([] : List UInt8)))) := by simpa using c29))
  (try (have c29b2 : decide (t420 = 0 && (t421 == 0 && (t422 == 0 && (t423.toList == ([] : List UInt8))))) = true := by simpa using c29))
  (try (have c29b3 : (t420 == 0 && (t421 == 0 && (t422 == 0 && (t423.toList == ([] : List UInt8))))) = true := by simpa using c29))
  clear c29
  by_cases c30 : t424 = 0
  rotate_left
  ·rw [if_neg c30] at H
   exact absurd H (by simp)
  rw [if_pos c30] at H
  have c30b0 : (t424 == 0) = true := beq_iff_eq.mpr c30
  have c30b1 : (t424 != 0) = false := bne_eq_false_iff_eq.mpr c30
  clear c30
  replace H := bM H
  obtain ⟨t431, A310, H⟩ := H
  replace H : (some t431) = some r := H
  have A31 := Aside0.mk A310
  clear A310
  obtain rfl := Option.some.inj H
  go_enter Tryd.func6, Tryd.ntmps6
  (try simp only [List.append_eq, List.cons_append, List.nil_append])
  go_wp2_with (first | ((with_reducible refine gate_callee (f := 13) rfl ?_); refine goesL_ (some 18) rfl rfl Tryd.func13 (by kernel_rfl) rfl #[.string js6, .int .i64 a1] rfl aO ?_; (with_reducible refine (col_Get.calls k js6 a1 t420 t421 t422 t423 t424 t425 _ A7.out).mono ?_); rintro e w32 ⟨rfl, hb⟩; refine ⟨_, rfl, ?_⟩; replace HB := as_ (below_step bA hb); (try clear hb); (try clear hb2); (try clear hk); (try clear hi)) | ((with_reducible refine gate_dst (N := 5) rfl ?_); (try (refine gate_guard (by rfl) ?_; dsimp only)); refine box_event ?hg (N := 5) ?hd (cs := #[.int .i64 0, .int .i64 0, .int .u64 0, .string (⟨#[]⟩ : ByteArray)]) (t := 24) ?hr ?_; (case hd => rfl); (case hg => rfl); (case hr => first | (go_simp; done) | (go_simp; rfl)); intro gb426 hg w33 hbox hb; have BK426 := as_ (hbox); have GW426 := gw hg bA; have GE426 := gw hg bA; replace HB := as_ (below_step bA hb); clear hb hbox hg; obtain ⟨hcz34_0, hcz34_1, hcz34_2, hcz34_3⟩ := zc4 BK426; obtain ⟨hfz34_0, hfz34_1, hfz34_2, hfz34_3⟩ := zf4 BK426) | (go_at_call 19; (with_reducible refine (withylaw03_fixed.calls k  t431 _ A31.out).mono ?_); rintro e w35 ⟨rfl, hb⟩; replace BK426 := as_ (blk_below (g := gb426) (o := .cells #[.int .i64 t420, .int .i64 t421, .int .u64 t422, .string t423] 24 (0, 0)) (by refine bx ?_; refine blk_put (cs := #[.int .i64 t420, .int .i64 t421, .int .u64 t422, .string (⟨#[]⟩ : ByteArray)]) ?_ 3 _ rfl; refine bx ?_; refine blk_put (cs := #[.int .i64 t420, .int .i64 t421, .int .u64 0, .string (⟨#[]⟩ : ByteArray)]) ?_ 2 _ rfl; refine bx ?_; refine blk_put (cs := #[.int .i64 t420, .int .i64 0, .int .u64 0, .string (⟨#[]⟩ : ByteArray)]) ?_ 1 _ rfl; refine bx ?_; refine blk_put (cs := #[.int .i64 0, .int .i64 0, .int .u64 0, .string (⟨#[]⟩ : ByteArray)]) ?_ 0 _ rfl; refine bx ?_; exact BK426.out) hb); replace HB := as_ (below_step bA hb); (try clear hb); (try clear hb2); (try clear hk); (try clear hi)))
  go_ret
  exact ⟨by first | rfl | (simp [errW_none, errW_some] <;> rfl) | (simp only [← hji3, ← hjs6]; first | rfl | (simp [errW_none, errW_some] <;> rfl)) | (simp [*, errW_none, errW_some] <;> rfl), by repeat (first | (with_reducible first | exact HB.out | apply below_alloc | apply pw_below_drewN | apply below_drew1 | refine below_set ?_ GE426.out) | exact HB.out)⟩
 rw [if_pos c8] at H
 have c8b0 : (t425 == 0) = true := beq_iff_eq.mpr c8
 have c8b1 : (t425 != 0) = false := bne_eq_false_iff_eq.mpr c8
 clear c8
 replace H := bM H
 obtain ⟨⟨t427, t428⟩, A90, H⟩ := H
 replace H : (if t428 = 0 then ((col_Right.f k t420 t421 t422 t423).bind fun t429 => (if t429 = true then (if a1 ≥ 0 then (if t424 > a1 then (if t424 ≤ ((js6).size : Int) then (if 0 ≤ a1 then (if a1 ≤ t424 then (if t427.toList = ((js6).extract (a1 : Int).toNat (t424 : Int).toNat).toList then ((withylaw03_fixed.f k).bind fun t430 => (some t430)) else (none)) else (none)) else (none)) else (none)) else (none)) else (none)) else (none))) else (none)) = some r := H
 have A9 := Aside0.mk A90
 clear A90
 by_cases c10 : t428 = 0
 rotate_left
 ·rw [if_neg c10] at H
  exact absurd H (by simp)
 rw [if_pos c10] at H
 have c10b0 : (t428 == 0) = true := beq_iff_eq.mpr c10
 have c10b1 : (t428 != 0) = false := bne_eq_false_iff_eq.mpr c10
 clear c10
 replace H := bM H
 obtain ⟨t429, A110, H⟩ := H
 replace H : (if t429 = true then (if a1 ≥ 0 then (if t424 > a1 then (if t424 ≤ ((js6).size : Int) then (if 0 ≤ a1 then (if a1 ≤ t424 then (if t427.toList = ((js6).extract (a1 : Int).toNat (t424 : Int).toNat).toList then ((withylaw03_fixed.f k).bind fun t430 => (some t430)) else (none)) else (none)) else (none)) else (none)) else (none)) else (none)) else (none)) = some r := H
 have A11 := Aside0.mk A110
 clear A110
 by_cases c12 : t429 = true
 rotate_left
 ·replace c12 := Bool.eq_false_iff.mpr c12
  subst c12
  have H1 : (none) = some r := by rw [if_neg (show ¬ (false = true) by decide)] at H; exact H
  clear H
  have H := H1
  clear H1
  exact absurd H (by simp)
 subst c12
 have H1 : (if a1 ≥ 0 then (if t424 > a1 then (if t424 ≤ ((js6).size : Int) then (if 0 ≤ a1 then (if a1 ≤ t424 then (if t427.toList = ((js6).extract (a1 : Int).toNat (t424 : Int).toNat).toList then ((withylaw03_fixed.f k).bind fun t430 => (some t430)) else (none)) else (none)) else (none)) else (none)) else (none)) else (none)) = some r := by rw [if_pos rfl] at H; exact H
 clear H
 have H := H1
 clear H1
 by_cases c13 : a1 ≥ 0
 rotate_left
 ·rw [if_neg c13] at H
  exact absurd H (by simp)
 rw [if_pos c13] at H
 have c13b0 : decide (0 ≤ a1) = true := decide_eq_true c13
 clear c13
 by_cases c14 : t424 > a1
 rotate_left
 ·rw [if_neg c14] at H
  exact absurd H (by simp)
 rw [if_pos c14] at H
 have c14b0 : decide (a1 < t424) = true := decide_eq_true c14
 clear c14
 by_cases c15 : t424 ≤ ((js6).size : Int)
 rotate_left
 ·rw [if_neg c15] at H
  exact absurd H (by simp)
 rw [if_pos c15] at H
 have c15b0 : decide (t424 ≤ ((js6).size : Int)) = true := decide_eq_true c15
 clear c15
 by_cases c16 : 0 ≤ a1
 rotate_left
 ·rw [if_neg c16] at H
  exact absurd H (by simp)
 rw [if_pos c16] at H
 have c16b0 := eq_true c16
 have c16b1 : decide (0 ≤ a1) = true := decide_eq_true c16
 clear c16
 by_cases c17 : a1 ≤ t424
 rotate_left
 ·rw [if_neg c17] at H
  exact absurd H (by simp)
 rw [if_pos c17] at H
 have c17b0 := eq_true c17
 have c17b1 : decide (a1 ≤ t424) = true := decide_eq_true c17
 clear c17
 have c18b0 := eq_true (of_decide_eq_true aM : t424 ≤ ((js6).size : Int))
 obtain ⟨js19, hjs19⟩ : ∃ j_ : ByteArray, ((js6).extract (a1 : Int).toNat (t424 : Int).toNat) = j_ := ⟨_, rfl⟩
 replace H : (if t427.toList = (js19).toList then ((withylaw03_fixed.f k).bind fun t430 => (some t430)) else (none)) = some r := by first | (rw [hjs19] at H; exact H) | (simp only [hjs19] at H ⊢; exact H)
 (try rw [hjs19] at A7)
 (try rw [hjs19] at A9)
 (try rw [hjs19] at A11)
 by_cases c20 : t427.toList = (js19).toList
 rotate_left
 ·rw [if_neg c20] at H
  exact absurd H (by simp)
 rw [if_pos c20] at H
 have c20b0 : (t427.toList == (js19).toList) = true := beq_iff_eq.mpr c20
 have c20b1 : (t427.toList != (js19).toList) = false := bne_eq_false_iff_eq.mpr c20
 clear c20
 replace H := bM H
 obtain ⟨t430, A210, H⟩ := H
 replace H : (some t430) = some r := H
 have A21 := Aside0.mk A210
 clear A210
 obtain rfl := Option.some.inj H
 go_enter Tryd.func6, Tryd.ntmps6
 (try simp only [List.append_eq, List.cons_append, List.nil_append])
 go_wp2_with (first | ((with_reducible refine gate_callee (f := 13) rfl ?_); refine goesL_ (some 18) rfl rfl Tryd.func13 (by kernel_rfl) rfl #[.string js6, .int .i64 a1] rfl aO ?_; (with_reducible refine (col_Get.calls k js6 a1 t420 t421 t422 t423 t424 t425 _ A7.out).mono ?_); rintro e w22 ⟨rfl, hb⟩; refine ⟨_, rfl, ?_⟩; replace HB := as_ (below_step bA hb); (try clear hb); (try clear hb2); (try clear hk); (try clear hi)) | ((with_reducible refine gate_dst (N := 5) rfl ?_); (try (refine gate_guard (by rfl) ?_; dsimp only)); refine box_event ?hg (N := 5) ?hd (cs := #[.int .i64 0, .int .i64 0, .int .u64 0, .string (⟨#[]⟩ : ByteArray)]) (t := 24) ?hr ?_; (case hd => rfl); (case hg => rfl); (case hr => first | (go_simp; done) | (go_simp; rfl)); intro gb426 hg w23 hbox hb; have BK426 := as_ (hbox); have GW426 := gw hg bA; have GE426 := gw hg bA; replace HB := as_ (below_step bA hb); clear hb hbox hg; obtain ⟨hcz24_0, hcz24_1, hcz24_2, hcz24_3⟩ := zc4 BK426; obtain ⟨hfz24_0, hfz24_1, hfz24_2, hfz24_3⟩ := zf4 BK426) | ((with_reducible refine gate_callee (f := 10) rfl ?_); refine goesL_ (some 36) rfl rfl Tryd.func10 (by kernel_rfl) rfl #[.agg #[.int .i64 t420, .int .i64 t421, .int .u64 t422, .string t423]] rfl aO ?_; (with_reducible refine (col_Put.calls k t420 t421 t422 t423 t427 t428 _ A9.out).mono ?_); rintro e w25 ⟨rfl, hb⟩; refine ⟨_, rfl, ?_⟩; replace BK426 := as_ (blk_below (g := gb426) (o := .cells #[.int .i64 t420, .int .i64 t421, .int .u64 t422, .string t423] 24 (0, 0)) (by refine bx ?_; refine blk_put (cs := #[.int .i64 t420, .int .i64 t421, .int .u64 t422, .string (⟨#[]⟩ : ByteArray)]) ?_ 3 _ rfl; refine bx ?_; refine blk_put (cs := #[.int .i64 t420, .int .i64 t421, .int .u64 0, .string (⟨#[]⟩ : ByteArray)]) ?_ 2 _ rfl; refine bx ?_; refine blk_put (cs := #[.int .i64 t420, .int .i64 0, .int .u64 0, .string (⟨#[]⟩ : ByteArray)]) ?_ 1 _ rfl; refine bx ?_; refine blk_put (cs := #[.int .i64 0, .int .i64 0, .int .u64 0, .string (⟨#[]⟩ : ByteArray)]) ?_ 0 _ rfl; refine bx ?_; exact BK426.out) hb); replace HB := as_ (below_step bA hb); (try clear hb); (try clear hb2); (try clear hk); (try clear hi); obtain ⟨hcz26_0, hcz26_1, hcz26_2, hcz26_3⟩ := zc4 BK426; obtain ⟨hfz26_0, hfz26_1, hfz26_2, hfz26_3⟩ := zf4 BK426) | (go_at_call 15; (with_reducible refine (col_Right.calls k t420 t421 t422 t423 true _ A11.out).mono ?_); rintro e w27 ⟨rfl, hb⟩; replace BK426 := bb BK426 hb; replace HB := as_ (below_step bA hb); (try clear hb); (try clear hb2); (try clear hk); (try clear hi)) | (go_at_call 19; (with_reducible refine (withylaw03_fixed.calls k  t430 _ A21.out).mono ?_); rintro e w28 ⟨rfl, hb⟩; replace BK426 := bb BK426 hb; replace HB := as_ (below_step bA hb); (try clear hb); (try clear hb2); (try clear hk); (try clear hi)))
 go_ret
 exact ⟨by first | rfl | (simp [errW_none, errW_some] <;> rfl) | (simp only [← hji3, ← hjs6, ← hjs19]; first | rfl | (simp [errW_none, errW_some] <;> rfl)) | (simp [*, errW_none, errW_some] <;> rfl), by repeat (first | (with_reducible first | exact HB.out | apply below_alloc | apply pw_below_drewN | apply below_drew1 | refine below_set ?_ GE426.out) | exact HB.out)⟩
end Go.Proofs.YtjfgeppfkhaliaaDoor.P
