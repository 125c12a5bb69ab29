/- What is proved here: for functions of the Go text, a Lean function each, and that the call comes to just what it answers. Conditions: as each contract names them. Written by wip/tools/myprint.py, a driver of the print of the kit. -/
import Derived.Test.YtnkndnpnjbcaoaaP0
import Derived.Test.YtnkndnpnjbcaoaaP6
import Derived.Test.YtnkndnpnjbcaoaaP11
import Derived.Test.YtnkndnpnjbcaoaaP12
import Derived.Test.YtnkndnpnjbcaoaaWAbbr
namespace Go.Proofs.Ytnkndnpnjbcaoaa.P
open Go.RowKit Go.Proofs.YtnkndnpnjbcaoaaW.PrintWords Go.Proofs.YtnkndnpnjbcaoaaW.PrintLast Go.Proofs.YtnkndnpnjbcaoaaW.PrintMore Go.Proofs.YtnkndnpnjbcaoaaW.Abbr
-- PACKED
attribute [local go_sem] max2_int min2_int max_two min_two max_three min_three max_four min_four Go.Proofs.YtnkndnpnjbcaoaaLaws.str_leq Go.Proofs.YtnkndnpnjbcaoaaLaws.str_gtr Go.Proofs.YtnkndnpnjbcaoaaLaws.str_geq Go.Proofs.YtnkndnpnjbcaoaaLaws.max2_str Go.Proofs.YtnkndnpnjbcaoaaLaws.min2_str   -- for this text's walks alone
set_option linter.unusedVariables false
set_option linter.unusedSimpArgs false

/-! ### withylaw13_MetaFields: function 6 -/
mutual
def withylaw13_MetaFields.j0 : Nat → ByteArray → Int → Bool → Int → Int → Int → Int → Int → Option (Bool)
 | 0, _, _, _, _, _, _, _, _ => none
 | k + 1, x3, x4, x25, x380000, x380001, x380002, x380003, x380004 => if x25 = true then (if x4 = 3 then (if x3.toList = ([] : List UInt8) then ((withylaw13_fixed.f k).bind fun t382 => (some t382)) else (none)) else (none)) else ((withyref07_Open.f k x3).bind fun bt383 => ((withyref01_Read.f k bt383.2.2.2.2.2.1 5).bind fun bt391 => ((withyref01_Read.f k bt383.2.2.2.2.2.1 9).bind fun bt393 => ((withyref01_Read.f k bt383.2.2.2.2.2.1 13).bind fun bt395 => (if bt383.2.2.2.2.2.2 = 0 then (if bt383.1 = 1 then (if bt383.2.1 = x380003 then (if bt383.2.2.2.1 = x380002 then (if bt383.2.2.2.2.1 = 0 then (if bt383.2.2.1 = 0 then (withylaw13_MetaFields.j1 k bt383.2.2.2.2.2.1 bt391.1 bt393.1 bt395.1 ((bt383.2.2.2.2.2.1.size : Int) != (wrap64 (x380000 - 16))) x380000 x380001 x380002 x380003 x380004) else (withylaw13_MetaFields.j1 k bt383.2.2.2.2.2.1 bt391.1 bt393.1 bt395.1 true x380000 x380001 x380002 x380003 x380004)) else (withylaw13_MetaFields.j1 k bt383.2.2.2.2.2.1 bt391.1 bt393.1 bt395.1 true x380000 x380001 x380002 x380003 x380004)) else (withylaw13_MetaFields.j1 k bt383.2.2.2.2.2.1 bt391.1 bt393.1 bt395.1 true x380000 x380001 x380002 x380003 x380004)) else (withylaw13_MetaFields.j1 k bt383.2.2.2.2.2.1 bt391.1 bt393.1 bt395.1 true x380000 x380001 x380002 x380003 x380004)) else (withylaw13_MetaFields.j1 k bt383.2.2.2.2.2.1 bt391.1 bt393.1 bt395.1 true x380000 x380001 x380002 x380003 x380004)) else (withylaw13_MetaFields.j1 k bt383.2.2.2.2.2.1 bt391.1 bt393.1 bt395.1 true x380000 x380001 x380002 x380003 x380004))))))
def withylaw13_MetaFields.j1 : Nat → ByteArray → Int → Int → Int → Bool → Int → Int → Int → Int → Int → Option (Bool)
 | 0, _, _, _, _, _, _, _, _, _, _ => none
 | k + 1, x6, x8, x10, x12, x94, x380000, x380001, x380002, x380003, x380004 => if x94 = true then (none) else (if 0 ≤ 5 then (if 5 ≤ (x6.size : Int) then (if (x6.extract 0 5).toList = ([119, 105, 116, 104, 121] : List UInt8) then (if (wrap64 (x8)) = x380000 then (if (wrap64 (x10)) = x380001 then (if (wrap64 (x12)) = x380004 then (if 17 ≤ (wrap64 ((x6.size : Int) - 1)) then (if (wrap64 ((x6.size : Int) - 1)) ≤ (x6.size : Int) then ((withyref01_Repeat.f k 0 (wrap64 ((x6.size : Int) - 18))).bind fun t397 => (if (x6.extract 17 ((wrap64 ((x6.size : Int) - 1)) : Int).toNat).toList = t397.toList then (if 0 ≤ (wrap64 ((x6.size : Int) - 1)) then (if (wrap64 ((x6.size : Int) - 1)) < (x6.size : Int) then (if (bt x6 (wrap64 ((x6.size : Int) - 1))) = 87 then ((withylaw13_fixed.f k).bind fun t398 => (some t398)) else (none)) else (none)) else (none)) else (none))) else (none)) else (none)) else (none)) else (none)) else (none)) else (none)) else (none)) else (none))
end
def withylaw13_MetaFields.f (k : Nat) (a0_0 : Int) (a0_1 : Int) (a0_2 : Int) (a0_3 : Int) (a0_4 : Int) : Option (Bool) := (meta_Encode.f k a0_0 a0_1 a0_2 a0_3 a0_4).bind fun bt380 => (if bt380.2 = 0 then (withylaw13_MetaFields.j0 k bt380.1 bt380.2 (decide ((bt380.1.size : Int) < 128)) a0_0 a0_1 a0_2 a0_3 a0_4) else (withylaw13_MetaFields.j0 k bt380.1 bt380.2 true a0_0 a0_1 a0_2 a0_3 a0_4))
theorem withylaw13_MetaFields.mono_l : ∀ k, (∀ y0 y1 y2 y3 y4 y5 y6 y7, LeO (withylaw13_MetaFields.j0 k y0 y1 y2 y3 y4 y5 y6 y7) (withylaw13_MetaFields.j0 (k + 1) y0 y1 y2 y3 y4 y5 y6 y7)) ∧ (∀ y0 y1 y2 y3 y4 y5 y6 y7 y8 y9, LeO (withylaw13_MetaFields.j1 k y0 y1 y2 y3 y4 y5 y6 y7 y8 y9) (withylaw13_MetaFields.j1 (k + 1) y0 y1 y2 y3 y4 y5 y6 y7 y8 y9))
 | 0 => ⟨fun _ _ _ _ _ _ _ _ r h => by simp [withylaw13_MetaFields.j0] at h, fun _ _ _ _ _ _ _ _ _ _ r h => by simp [withylaw13_MetaFields.j1] at h⟩
 | k + 1 => by
  obtain ⟨ih0, ih1⟩ := withylaw13_MetaFields.mono_l k
  refine ⟨?_, ?_⟩
  ·intro y0 y1 y2 y3 y4 y5 y6 y7
   unfold withylaw13_MetaFields.j0
   repeat' first
   | (with_reducible exact ih0 _ _ _ _ _ _ _ _)
   | (with_reducible exact ih1 _ _ _ _ _ _ _ _ _ _)
   | (with_reducible exact meta_Encode.mono _ _ _ _ _ _)
   | (with_reducible exact withylaw13_fixed.mono _)
   | (with_reducible exact withyref01_Read.mono _ _ _)
   | (with_reducible exact withyref01_Repeat.mono _ _ _)
   | (with_reducible exact withyref07_Open.mono _ _)
   | (with_reducible exact LeO.refl _)
   | (with_reducible exact LeO.none _)
   | (with_reducible refine LeO.ite ?_ ?_)
   | (with_reducible refine LeO.bind ?_ (fun _ => ?_))
   | exact ih0 _ _ _ _ _ _ _ _
   | exact ih1 _ _ _ _ _ _ _ _ _ _
   | exact meta_Encode.mono _ _ _ _ _ _
   | exact withylaw13_fixed.mono _
   | exact withyref01_Read.mono _ _ _
   | exact withyref01_Repeat.mono _ _ _
   | exact withyref07_Open.mono _ _
   | exact LeO.none _
   | refine LeO.ite ?_ ?_
   | refine LeO.bind ?_ (fun _ => ?_)
  ·intro y0 y1 y2 y3 y4 y5 y6 y7 y8 y9
   unfold withylaw13_MetaFields.j1
   repeat' first
   | (with_reducible exact ih0 _ _ _ _ _ _ _ _)
   | (with_reducible exact ih1 _ _ _ _ _ _ _ _ _ _)
   | (with_reducible exact meta_Encode.mono _ _ _ _ _ _)
   | (with_reducible exact withylaw13_fixed.mono _)
   | (with_reducible exact withyref01_Read.mono _ _ _)
   | (with_reducible exact withyref01_Repeat.mono _ _ _)
   | (with_reducible exact withyref07_Open.mono _ _)
   | (with_reducible exact LeO.refl _)
   | (with_reducible exact LeO.none _)
   | (with_reducible refine LeO.ite ?_ ?_)
   | (with_reducible refine LeO.bind ?_ (fun _ => ?_))
   | exact ih0 _ _ _ _ _ _ _ _
   | exact ih1 _ _ _ _ _ _ _ _ _ _
   | exact meta_Encode.mono _ _ _ _ _ _
   | exact withylaw13_fixed.mono _
   | exact withyref01_Read.mono _ _ _
   | exact withyref01_Repeat.mono _ _ _
   | exact withyref07_Open.mono _ _
   | exact LeO.none _
   | refine LeO.ite ?_ ?_
   | refine LeO.bind ?_ (fun _ => ?_)
theorem withylaw13_MetaFields.mono : ∀ a0 a1 a2 a3 a4 k, LeO (withylaw13_MetaFields.f k a0 a1 a2 a3 a4) (withylaw13_MetaFields.f (k + 1) a0 a1 a2 a3 a4) := by
 intro a0 a1 a2 a3 a4 k
 obtain ⟨ih0, ih1⟩ := withylaw13_MetaFields.mono_l k
 unfold withylaw13_MetaFields.f
 repeat' first
   | (with_reducible exact ih0 _ _ _ _ _ _ _ _)
   | (with_reducible exact ih1 _ _ _ _ _ _ _ _ _ _)
   | (with_reducible exact meta_Encode.mono _ _ _ _ _ _)
   | (with_reducible exact withylaw13_fixed.mono _)
   | (with_reducible exact withyref01_Read.mono _ _ _)
   | (with_reducible exact withyref01_Repeat.mono _ _ _)
   | (with_reducible exact withyref07_Open.mono _ _)
   | (with_reducible exact LeO.refl _)
   | (with_reducible exact LeO.none _)
   | (with_reducible refine LeO.ite ?_ ?_)
   | (with_reducible refine LeO.bind ?_ (fun _ => ?_))
   | exact ih0 _ _ _ _ _ _ _ _
   | exact ih1 _ _ _ _ _ _ _ _ _ _
   | exact meta_Encode.mono _ _ _ _ _ _
   | exact withylaw13_fixed.mono _
   | exact withyref01_Read.mono _ _ _
   | exact withyref01_Repeat.mono _ _ _
   | exact withyref07_Open.mono _ _
   | exact LeO.none _
   | refine LeO.ite ?_ ?_
   | refine LeO.bind ?_ (fun _ => ?_)
def withylaw13_MetaFields.T10 : Bool × List (List Nat × List Nat) := (true, [([], []), ([0], [0]), ([1], [1]), ([2], [2]), ([3], [3]), ([4, 3], [3, 4]), ([3], [3]), ([6, 3], [3, 6]), ([5, 7, 3], [3, 5, 7]), ([3, 8], [3, 8]), ([9, 3], [9]), ([10], [10]), ([11, 10], [10, 11]), ([10], [10]), ([13, 10], [10, 13]), ([12, 14, 10], [10, 12, 14]), ([10, 15], [10, 15]), ([16, 10], [16]), ([17], [17]), ([18, 17], [17, 18]), ([17], [17]), ([20, 17], [17, 20]), ([19, 21, 17], [17, 19, 21]), ([17, 22], [17, 22]), ([23, 17], [23]), ([24], [24]), ([24], [24]), ([26, 24], [24, 26]), ([27, 24], [24, 27]), ([25, 28, 24], [24, 25, 28]), ([24], [24]), ([30, 24], [24, 30]), ([31, 24], [24, 31]), ([32, 24, 24], [24, 32]), ([29, 33, 24], [24, 29, 33]), ([24, 34], [24, 34]), ([35, 33], [35]), ([36], [36]), ([36], [36]), ([38, 36], [36, 38]), ([39, 36], [36, 39]), ([37, 40, 36], [36, 37, 40]), ([41, 36], [36, 41]), ([36, 42], [36, 42]), ([43, 36], [43]), ([44, 44], [44]), ([44, 45], [44, 45]), ([46, 45, 0, 1, 2, 3, 4, 5, 6, 7, 8, 9, 10, 11, 12, 13, 14, 15, 16, 17, 18, 19, 20, 21, 22, 23, 24, 25, 26, 27, 28, 29, 30, 31, 32, 33, 34, 35, 36, 37, 38, 39, 40, 41, 42, 43, 44, 45, 46], [46])])
def withylaw13_MetaFields.B10 : List Nat := [0, 1, 3, 7, 15, 31, 15, 79, 255, 511, 1023, 2047, 4095, 2047, 10239, 32767, 65535, 131071, 262143, 524287, 262143, 1310719, 4194303, 8388607, 16777215, 33554431, 33554431, 100663295, 234881023, 536870911, 33554431, 1107296255, 3254779903, 7549747199, 17179869183, 34359738367, 68719476735, 137438953471, 137438953471, 412316860415, 962072674303, 2199023255551, 4398046511103, 8796093022207, 17592186044415, 35184372088831, 70368744177663, 140737488355327]
theorem withylaw13_MetaFields.tab10 : rtab .any (opsOf Try.f6 10) = withylaw13_MetaFields.T10 := by kernel_rfl
theorem withylaw13_MetaFields.bits10 : waitsOk withylaw13_MetaFields.T10.2 withylaw13_MetaFields.B10 = true := by kernel_rfl
set_option maxHeartbeats 8000000 in
set_option maxRecDepth 100000 in
theorem withylaw13_MetaFields.calls (k : Nat) (a0_0 : Int) (a0_1 : Int) (a0_2 : Int) (a0_3 : Int) (a0_4 : Int) (r : Bool) (w : World) (h : withylaw13_MetaFields.f k a0_0 a0_1 a0_2 a0_3 a0_4 = some r) :
  Calls Try.prog 6 #[.agg #[.int .i64 a0_0, .int .i64 a0_1, .int .i64 a0_2, .int .i64 a0_3, .int .i64 a0_4]] w fun e w' => e = .returned (.bool r) ∧ Below w.heap.size w w' := by
 have hu23 := Try.underlying23
 have hu45 := Try.underlying45
 have HB := as_ (Below.refl w.heap.size w)
 have H : ((meta_Encode.f k a0_0 a0_1 a0_2 a0_3 a0_4).bind fun bt380 => (if bt380.2 = 0 then (withylaw13_MetaFields.j0 k bt380.1 bt380.2 (decide ((bt380.1.size : Int) < 128)) a0_0 a0_1 a0_2 a0_3 a0_4) else (withylaw13_MetaFields.j0 k bt380.1 bt380.2 true a0_0 a0_1 a0_2 a0_3 a0_4))) = some r := h
 clear h
 replace H := bM H
 obtain ⟨⟨t380, t381⟩, A20, H⟩ := H
 replace H : (if t381 = 0 then (withylaw13_MetaFields.j0 k t380 t381 (decide ((t380.size : Int) < 128)) a0_0 a0_1 a0_2 a0_3 a0_4) else (withylaw13_MetaFields.j0 k t380 t381 true a0_0 a0_1 a0_2 a0_3 a0_4)) = some r := H
 have A2 := Aside0.mk A20
 clear A20
 have HC3 := Aside0.mk H
 clear H
 go_enter Try.func6, Try.ntmps6
 (try simp only [List.append_eq, List.cons_append, List.nil_append])
 go_upto_region 2 with (first | ((with_reducible refine gate_dst (N := 1) rfl ?_); (try (refine gate_guard (by rfl) ?_; dsimp only)); refine box_event (by rfl) (N := 1) (by rfl) (cs := #[.int .i64 a0_0, .int .i64 a0_1, .int .i64 a0_2, .int .i64 a0_3, .int .i64 a0_4]) (t := 23) gS ?_; intro gb379 hg w4 hbox hb; have BK379 := as_ (hbox); have GW379 := gw hg bA; have GE379 := gw hg bA; replace HB := as_ (below_step bA hb); clear hb hbox hg; obtain ⟨hcz5_0, hcz5_1, hcz5_2, hcz5_3, hcz5_4⟩ := zc5 BK379; obtain ⟨hfz5_0, hfz5_1, hfz5_2, hfz5_3, hfz5_4⟩ := zf5 BK379) | ((with_reducible refine gate_callee (f := 9) rfl ?_); refine goesL_ (some 16) rfl rfl Try.func9 (by kernel_rfl) rfl #[.agg #[.int .i64 a0_0, .int .i64 a0_1, .int .i64 a0_2, .int .i64 a0_3, .int .i64 a0_4]] rfl aO ?_; (with_reducible refine (meta_Encode.calls k a0_0 a0_1 a0_2 a0_3 a0_4 t380 t381 _ A2.out).mono ?_); rintro e w6 ⟨rfl, hb⟩; refine ⟨_, rfl, ?_⟩; replace BK379 := bb BK379 hb; replace HB := as_ (below_step bA hb); (try clear hb); (try clear hb2); (try clear hk); (try clear hi)))
 (try simp only [Act.put, List.setIfInBounds_toArray, List.set_cons_zero, List.set_cons_succ])
 go_cut [25] (fun v25 wc => ∃ (kq : Nat) (x25_2 : Bool), v25 = .bool x25_2 ∧ Aside0 (withylaw13_MetaFields.j0 kq t380 t381 x25_2 a0_0 a0_1 a0_2 a0_3 a0_4 = some r) ∧ Aside0 (kq ≤ k) ∧ Aside0 (wc.heap[gb379]? = some (.cells #[.int .i64 a0_0, .int .i64 a0_1, .int .i64 a0_2, .int .i64 a0_3, .int .i64 a0_4] 23 (0, 0))) ∧ Aside0 (Below w.heap.size w wc))
 case first =>
  have H := HC3.out
  clear HC3
  by_cases c7 : t381 = 0
  rotate_left
  ·rw [if_neg c7] at H
   have c7b0 : (t381 == 0) = false := beq_eq_false_iff_ne.mpr c7
   have c7b1 : (t381 != 0) = true := bne_iff_ne.mpr c7
   (first | rw [c7b0] | (simp only [i64_w, i32_w]; rw [c7b0]) | rw [c7b1] | skip)
   have H' := Aside0.mk H
   clear H
   go_wp2
   go_meet
   case rel => exact ⟨_, (true), (by first | rfl | (simp; done) | (simp [*]; done)), H', ⟨by first | omega | exact Nat.le_refl _⟩, ⟨by refine bx ?_; exact BK379.out⟩, ⟨by repeat (first | (with_reducible first | exact HB.out | apply below_alloc | apply pw_below_drewN | apply below_drew1 | refine below_set ?_ GE379.out) | exact HB.out)⟩⟩
  rw [if_pos c7] at H
  have c7b0 : (t381 == 0) = true := beq_iff_eq.mpr c7
  have c7b1 : (t381 != 0) = false := bne_eq_false_iff_eq.mpr c7
  clear c7
  (first | rw [c7b0] | (simp only [i64_w, i32_w]; rw [c7b0]) | rw [c7b1] | skip)
  have H' := Aside0.mk H
  clear H
  go_wp2
  go_meet
  case rel => exact ⟨_, (decide ((t380.size : Int) < 128)), (by first | rfl | (simp; done) | (simp [*]; done)), H', ⟨by first | omega | exact Nat.le_refl _⟩, ⟨by refine bx ?_; exact BK379.out⟩, ⟨by repeat (first | (with_reducible first | exact HB.out | apply below_alloc | apply pw_below_drewN | apply below_drew1 | refine below_set ?_ GE379.out) | exact HB.out)⟩⟩
 case rest =>
  clear HC3
  try clear p2
  try clear c6
  try clear c7
  try clear c7b0
  try clear c7b1
  try clear hcz5_0
  try clear hcz5_1
  try clear hcz5_2
  try clear hcz5_3
  try clear hcz5_4
  try clear hfz5_0
  try clear hfz5_1
  try clear hfz5_2
  try clear hfz5_3
  try clear hfz5_4
  obtain ⟨kq, x25_2, rfl, HA, HJ2, BK379, HB⟩ := hcut
  cases kq with
  | zero => exact absurd HA.out (by simp [withylaw13_MetaFields.j0])
  | succ kj2 =>
   have H := HA.out
   clear HA
   simp only [withylaw13_MetaFields.j0] at H
   by_cases c8 : x25_2 = true
   ·subst c8
    have H1 : (if t381 = 3 then (if t380.toList = ([] : List UInt8) then ((withylaw13_fixed.f kj2).bind fun t382 => (some t382)) else (none)) else (none)) = some r := by rw [if_pos rfl] at H; exact H
    clear H
    have H := H1
    clear H1
    by_cases c9 : t381 = 3
    rotate_left
    ·rw [if_neg c9] at H
     exact absurd H (by simp)
    rw [if_pos c9] at H
    have c9b0 : (t381 == 3) = true := beq_iff_eq.mpr c9
    have c9b1 : (t381 != 3) = false := bne_eq_false_iff_eq.mpr c9
    clear c9
    by_cases c10 : t380.toList = ([] : List UInt8)
    rotate_left
    ·rw [if_neg c10] at H
     exact absurd H (by simp)
    rw [if_pos c10] at H
    have c10b0 : (t380.toList == ([] : List UInt8)) = true := beq_iff_eq.mpr c10
    have c10b1 : (t380.toList != ([] : List UInt8)) = false := bne_eq_false_iff_eq.mpr c10
    clear c10
    replace H := bM H
    obtain ⟨t382, A110, H⟩ := H
    replace H : (some t382) = some r := H
    have A11 := Aside0.mk A110
    clear A110
    obtain rfl := Option.some.inj H
    go_wp2_with (first | (go_at_call 18; (with_reducible refine (withylaw13_fixed.calls kj2  t382 _ A11.out).mono ?_); rintro e w12 ⟨rfl, hb⟩; replace BK379 := bb BK379 hb; replace HB := as_ (below_step bA hb); (try clear hb); (try clear hb2); (try clear hk); (try clear hi)))
    go_ret
    exact ⟨eW, by repeat (first | (with_reducible first | exact HB.out | apply below_alloc | apply pw_below_drewN | apply below_drew1 | refine below_set ?_ GE379.out) | exact HB.out)⟩
   replace c8 := Bool.eq_false_iff.mpr c8
   subst c8
   have H1 : ((withyref07_Open.f kj2 t380).bind fun bt383 => ((withyref01_Read.f kj2 bt383.2.2.2.2.2.1 5).bind fun bt391 => ((withyref01_Read.f kj2 bt383.2.2.2.2.2.1 9).bind fun bt393 => ((withyref01_Read.f kj2 bt383.2.2.2.2.2.1 13).bind fun bt395 => (if bt383.2.2.2.2.2.2 = 0 then (if bt383.1 = 1 then (if bt383.2.1 = a0_3 then (if bt383.2.2.2.1 = a0_2 then (if bt383.2.2.2.2.1 = 0 then (if bt383.2.2.1 = 0 then (withylaw13_MetaFields.j1 kj2 bt383.2.2.2.2.2.1 bt391.1 bt393.1 bt395.1 ((bt383.2.2.2.2.2.1.size : Int) != (wrap64 (a0_0 - 16))) a0_0 a0_1 a0_2 a0_3 a0_4) else (withylaw13_MetaFields.j1 kj2 bt383.2.2.2.2.2.1 bt391.1 bt393.1 bt395.1 true a0_0 a0_1 a0_2 a0_3 a0_4)) else (withylaw13_MetaFields.j1 kj2 bt383.2.2.2.2.2.1 bt391.1 bt393.1 bt395.1 true a0_0 a0_1 a0_2 a0_3 a0_4)) else (withylaw13_MetaFields.j1 kj2 bt383.2.2.2.2.2.1 bt391.1 bt393.1 bt395.1 true a0_0 a0_1 a0_2 a0_3 a0_4)) else (withylaw13_MetaFields.j1 kj2 bt383.2.2.2.2.2.1 bt391.1 bt393.1 bt395.1 true a0_0 a0_1 a0_2 a0_3 a0_4)) else (withylaw13_MetaFields.j1 kj2 bt383.2.2.2.2.2.1 bt391.1 bt393.1 bt395.1 true a0_0 a0_1 a0_2 a0_3 a0_4)) else (withylaw13_MetaFields.j1 kj2 bt383.2.2.2.2.2.1 bt391.1 bt393.1 bt395.1 true a0_0 a0_1 a0_2 a0_3 a0_4)))))) = some r := by rw [if_neg (show ¬ (false = true) by decide)] at H; exact H
   clear H
   have H := H1
   clear H1
   replace H := bM H
   obtain ⟨⟨t383, t384, t385, t386, t387, t388, t389⟩, A130, H⟩ := H
   replace H : ((withyref01_Read.f kj2 t388 5).bind fun bt391 => ((withyref01_Read.f kj2 t388 9).bind fun bt393 => ((withyref01_Read.f kj2 t388 13).bind fun bt395 => (if t389 = 0 then (if t383 = 1 then (if t384 = a0_3 then (if t386 = a0_2 then (if t387 = 0 then (if t385 = 0 then (withylaw13_MetaFields.j1 kj2 t388 bt391.1 bt393.1 bt395.1 ((t388.size : Int) != (wrap64 (a0_0 - 16))) a0_0 a0_1 a0_2 a0_3 a0_4) else (withylaw13_MetaFields.j1 kj2 t388 bt391.1 bt393.1 bt395.1 true a0_0 a0_1 a0_2 a0_3 a0_4)) else (withylaw13_MetaFields.j1 kj2 t388 bt391.1 bt393.1 bt395.1 true a0_0 a0_1 a0_2 a0_3 a0_4)) else (withylaw13_MetaFields.j1 kj2 t388 bt391.1 bt393.1 bt395.1 true a0_0 a0_1 a0_2 a0_3 a0_4)) else (withylaw13_MetaFields.j1 kj2 t388 bt391.1 bt393.1 bt395.1 true a0_0 a0_1 a0_2 a0_3 a0_4)) else (withylaw13_MetaFields.j1 kj2 t388 bt391.1 bt393.1 bt395.1 true a0_0 a0_1 a0_2 a0_3 a0_4)) else (withylaw13_MetaFields.j1 kj2 t388 bt391.1 bt393.1 bt395.1 true a0_0 a0_1 a0_2 a0_3 a0_4))))) = some r := H
   have A13 := Aside0.mk A130
   clear A130
   replace H := bM H
   obtain ⟨⟨t391, t392⟩, A140, H⟩ := H
   replace H : ((withyref01_Read.f kj2 t388 9).bind fun bt393 => ((withyref01_Read.f kj2 t388 13).bind fun bt395 => (if t389 = 0 then (if t383 = 1 then (if t384 = a0_3 then (if t386 = a0_2 then (if t387 = 0 then (if t385 = 0 then (withylaw13_MetaFields.j1 kj2 t388 t391 bt393.1 bt395.1 ((t388.size : Int) != (wrap64 (a0_0 - 16))) a0_0 a0_1 a0_2 a0_3 a0_4) else (withylaw13_MetaFields.j1 kj2 t388 t391 bt393.1 bt395.1 true a0_0 a0_1 a0_2 a0_3 a0_4)) else (withylaw13_MetaFields.j1 kj2 t388 t391 bt393.1 bt395.1 true a0_0 a0_1 a0_2 a0_3 a0_4)) else (withylaw13_MetaFields.j1 kj2 t388 t391 bt393.1 bt395.1 true a0_0 a0_1 a0_2 a0_3 a0_4)) else (withylaw13_MetaFields.j1 kj2 t388 t391 bt393.1 bt395.1 true a0_0 a0_1 a0_2 a0_3 a0_4)) else (withylaw13_MetaFields.j1 kj2 t388 t391 bt393.1 bt395.1 true a0_0 a0_1 a0_2 a0_3 a0_4)) else (withylaw13_MetaFields.j1 kj2 t388 t391 bt393.1 bt395.1 true a0_0 a0_1 a0_2 a0_3 a0_4)))) = some r := H
   have A14 := Aside0.mk A140
   clear A140
   replace H := bM H
   obtain ⟨⟨t393, t394⟩, A150, H⟩ := H
   replace H : ((withyref01_Read.f kj2 t388 13).bind fun bt395 => (if t389 = 0 then (if t383 = 1 then (if t384 = a0_3 then (if t386 = a0_2 then (if t387 = 0 then (if t385 = 0 then (withylaw13_MetaFields.j1 kj2 t388 t391 t393 bt395.1 ((t388.size : Int) != (wrap64 (a0_0 - 16))) a0_0 a0_1 a0_2 a0_3 a0_4) else (withylaw13_MetaFields.j1 kj2 t388 t391 t393 bt395.1 true a0_0 a0_1 a0_2 a0_3 a0_4)) else (withylaw13_MetaFields.j1 kj2 t388 t391 t393 bt395.1 true a0_0 a0_1 a0_2 a0_3 a0_4)) else (withylaw13_MetaFields.j1 kj2 t388 t391 t393 bt395.1 true a0_0 a0_1 a0_2 a0_3 a0_4)) else (withylaw13_MetaFields.j1 kj2 t388 t391 t393 bt395.1 true a0_0 a0_1 a0_2 a0_3 a0_4)) else (withylaw13_MetaFields.j1 kj2 t388 t391 t393 bt395.1 true a0_0 a0_1 a0_2 a0_3 a0_4)) else (withylaw13_MetaFields.j1 kj2 t388 t391 t393 bt395.1 true a0_0 a0_1 a0_2 a0_3 a0_4))) = some r := H
   have A15 := Aside0.mk A150
   clear A150
   replace H := bM H
   obtain ⟨⟨t395, t396⟩, A160, H⟩ := H
   replace H : (if t389 = 0 then (if t383 = 1 then (if t384 = a0_3 then (if t386 = a0_2 then (if t387 = 0 then (if t385 = 0 then (withylaw13_MetaFields.j1 kj2 t388 t391 t393 t395 ((t388.size : Int) != (wrap64 (a0_0 - 16))) a0_0 a0_1 a0_2 a0_3 a0_4) else (withylaw13_MetaFields.j1 kj2 t388 t391 t393 t395 true a0_0 a0_1 a0_2 a0_3 a0_4)) else (withylaw13_MetaFields.j1 kj2 t388 t391 t393 t395 true a0_0 a0_1 a0_2 a0_3 a0_4)) else (withylaw13_MetaFields.j1 kj2 t388 t391 t393 t395 true a0_0 a0_1 a0_2 a0_3 a0_4)) else (withylaw13_MetaFields.j1 kj2 t388 t391 t393 t395 true a0_0 a0_1 a0_2 a0_3 a0_4)) else (withylaw13_MetaFields.j1 kj2 t388 t391 t393 t395 true a0_0 a0_1 a0_2 a0_3 a0_4)) else (withylaw13_MetaFields.j1 kj2 t388 t391 t393 t395 true a0_0 a0_1 a0_2 a0_3 a0_4)) = some r := H
   have A16 := Aside0.mk A160
   clear A160
   have HC17 := Aside0.mk H
   clear H
   go_upto_region 8 with (first | ((with_reducible refine gate_callee (f := 20) rfl ?_); refine goesL_ (some 37) rfl rfl Try.func20 (by kernel_rfl) rfl #[.string t380] rfl aO ?_; (with_reducible refine (withyref07_Open.calls kj2 t380 t383 t384 t385 t386 t387 t388 t389 _ A13.out).mono ?_); rintro e w18 ⟨rfl, hb⟩; refine ⟨_, rfl, ?_⟩; replace BK379 := bb BK379 hb; replace HB := as_ (below_step bA hb); (try clear hb); (try clear hb2); (try clear hk); (try clear hi)) | ((with_reducible refine gate_dst (N := 5) rfl ?_); (try (refine gate_guard (by rfl) ?_; dsimp only)); refine box_event (by rfl) (N := 5) (by rfl) (cs := #[.int .i64 0, .int .i64 0, .int .i64 0, .int .i64 0, .int .i64 0]) (t := 45) gS ?_; intro gb390 hg w19 hbox hb; have BK390 := as_ (hbox); have GW390 := gw hg bA; have GE390 := gw hg bA; have NB379_390 := nl BK379 hg; have NB390_379 := ng BK379 hg; replace BK379 := bb BK379 hb; replace HB := as_ (below_step bA hb); clear hb hbox hg; have hnb20 := NB390_379.out; have hnc20 := NB379_390.out; obtain ⟨hcz21_0, hcz21_1, hcz21_2, hcz21_3, hcz21_4⟩ := zc5 BK390; obtain ⟨hfz21_0, hfz21_1, hfz21_2, hfz21_3, hfz21_4⟩ := zf5 BK390) | ((with_reducible refine gate_callee (f := 21) rfl ?_); refine goesL_ (some 43) rfl rfl Try.func21 (by kernel_rfl) rfl #[.string t388, .int .i64 5] rfl aO ?_; (with_reducible refine (withyref01_Read.calls kj2 t388 5 t391 t392 _ A14.out).mono ?_); rintro e w' ⟨rfl, ⟨nd, rfl⟩⟩; refine ⟨_, rfl, ?_⟩) | ((with_reducible refine gate_callee (f := 21) rfl ?_); refine goesL_ (some 48) rfl rfl Try.func21 (by kernel_rfl) rfl #[.string t388, .int .i64 9] rfl aO ?_; (with_reducible refine (withyref01_Read.calls kj2 t388 9 t393 t394 _ A15.out).mono ?_); rintro e w' ⟨rfl, ⟨nd, rfl⟩⟩; refine ⟨_, rfl, ?_⟩) | ((with_reducible refine gate_callee (f := 21) rfl ?_); refine goesL_ (some 53) rfl rfl Try.func21 (by kernel_rfl) rfl #[.string t388, .int .i64 13] rfl aO ?_; (with_reducible refine (withyref01_Read.calls kj2 t388 13 t395 t396 _ A16.out).mono ?_); rintro e w' ⟨rfl, ⟨nd, rfl⟩⟩; refine ⟨_, rfl, ?_⟩))
   (try simp only [Act.put, List.setIfInBounds_toArray, List.set_cons_zero, List.set_cons_succ])
   go_cut [94] (fun v94 wc => ∃ (kq : Nat) (x94_16 : Bool), v94 = .bool x94_16 ∧ Aside0 (withylaw13_MetaFields.j1 kq t388 t391 t393 t395 x94_16 a0_0 a0_1 a0_2 a0_3 a0_4 = some r) ∧ Aside0 (kq ≤ kj2) ∧ Aside0 (wc.heap[gb379]? = some (.cells #[.int .i64 a0_0, .int .i64 a0_1, .int .i64 a0_2, .int .i64 a0_3, .int .i64 a0_4] 23 (0, 0))) ∧ Aside0 (wc.heap[gb390]? = some (.cells #[.int .i64 t383, .int .i64 t384, .int .i64 t385, .int .i64 t386, .int .i64 t387] 45 (0, 0))) ∧ Aside0 (Below w.heap.size w wc))
   case first =>
    have H := HC17.out
    clear HC17
    by_cases c22 : t389 = 0
    rotate_left
    ·rw [if_neg c22] at H
     have c22b0 : (t389 == 0) = false := beq_eq_false_iff_ne.mpr c22
     have c22b1 : (t389 != 0) = true := bne_iff_ne.mpr c22
     (first | rw [c22b0] | (simp only [i64_w, i32_w]; rw [c22b0]) | rw [c22b1] | skip)
     have H' := Aside0.mk H
     clear H
     go_wp2
     go_meet
     case rel => exact ⟨_, (true), (by first | rfl | (simp; done) | (simp [*]; done)), H', ⟨by have := HJ2.out; first | omega | exact Nat.le_refl _⟩, ⟨by refine bx ?_; refine blk_far ?_ NB379_390.out _; refine bx ?_; refine blk_far ?_ NB379_390.out _; refine bx ?_; refine blk_far ?_ NB379_390.out _; refine bx ?_; refine blk_far ?_ NB379_390.out _; refine bx ?_; refine blk_far ?_ NB379_390.out _; refine bx ?_; exact BK379.out⟩, ⟨by refine bx ?_; refine blk_put (cs := #[.int .i64 t383, .int .i64 t384, .int .i64 t385, .int .i64 t386, .int .i64 0]) ?_ 4 _ rfl; refine bx ?_; refine blk_put (cs := #[.int .i64 t383, .int .i64 t384, .int .i64 t385, .int .i64 0, .int .i64 0]) ?_ 3 _ rfl; refine bx ?_; refine blk_put (cs := #[.int .i64 t383, .int .i64 t384, .int .i64 0, .int .i64 0, .int .i64 0]) ?_ 2 _ rfl; refine bx ?_; refine blk_put (cs := #[.int .i64 t383, .int .i64 0, .int .i64 0, .int .i64 0, .int .i64 0]) ?_ 1 _ rfl; refine bx ?_; refine blk_put (cs := #[.int .i64 0, .int .i64 0, .int .i64 0, .int .i64 0, .int .i64 0]) ?_ 0 _ rfl; refine bx ?_; exact BK390.out⟩, ⟨by repeat (first | (with_reducible first | exact HB.out | apply below_alloc | apply pw_below_drewN | apply below_drew1 | refine below_set ?_ GE379.out | refine below_set ?_ GE390.out) | exact HB.out)⟩⟩
    rw [if_pos c22] at H
    have c22b0 : (t389 == 0) = true := beq_iff_eq.mpr c22
    have c22b1 : (t389 != 0) = false := bne_eq_false_iff_eq.mpr c22
    clear c22
    (first | rw [c22b0] | (simp only [i64_w, i32_w]; rw [c22b0]) | rw [c22b1] | skip)
    by_cases c23 : t383 = 1
    rotate_left
    ·rw [if_neg c23] at H
     have c23b0 : (t383 == 1) = false := beq_eq_false_iff_ne.mpr c23
     have c23b1 : (t383 != 1) = true := bne_iff_ne.mpr c23
     have H' := Aside0.mk H
     clear H
     have hnb43 := NB390_379.out
     have hnc43 := NB379_390.out
     obtain ⟨hcz44_0, hcz44_1, hcz44_2, hcz44_3, hcz44_4⟩ := zc5 BK390
     obtain ⟨hfz44_0, hfz44_1, hfz44_2, hfz44_3, hfz44_4⟩ := zf5 BK390
     go_wp2
     go_meet
     case rel => exact ⟨_, (true), (by first | rfl | (simp; done) | (simp [*]; done)), H', ⟨by have := HJ2.out; first | omega | exact Nat.le_refl _⟩, ⟨by refine bx ?_; refine blk_far ?_ NB379_390.out _; refine bx ?_; refine blk_far ?_ NB379_390.out _; refine bx ?_; refine blk_far ?_ NB379_390.out _; refine bx ?_; refine blk_far ?_ NB379_390.out _; refine bx ?_; refine blk_far ?_ NB379_390.out _; refine bx ?_; exact BK379.out⟩, ⟨by refine bx ?_; refine blk_put (cs := #[.int .i64 t383, .int .i64 t384, .int .i64 t385, .int .i64 t386, .int .i64 0]) ?_ 4 _ rfl; refine bx ?_; refine blk_put (cs := #[.int .i64 t383, .int .i64 t384, .int .i64 t385, .int .i64 0, .int .i64 0]) ?_ 3 _ rfl; refine bx ?_; refine blk_put (cs := #[.int .i64 t383, .int .i64 t384, .int .i64 0, .int .i64 0, .int .i64 0]) ?_ 2 _ rfl; refine bx ?_; refine blk_put (cs := #[.int .i64 t383, .int .i64 0, .int .i64 0, .int .i64 0, .int .i64 0]) ?_ 1 _ rfl; refine bx ?_; refine blk_put (cs := #[.int .i64 0, .int .i64 0, .int .i64 0, .int .i64 0, .int .i64 0]) ?_ 0 _ rfl; refine bx ?_; exact BK390.out⟩, ⟨by repeat (first | (with_reducible first | exact HB.out | apply below_alloc | apply pw_below_drewN | apply below_drew1 | refine below_set ?_ GE379.out | refine below_set ?_ GE390.out) | exact HB.out)⟩⟩
    rw [if_pos c23] at H
    have c23b0 : (t383 == 1) = true := beq_iff_eq.mpr c23
    have c23b1 : (t383 != 1) = false := bne_eq_false_iff_eq.mpr c23
    clear c23
    by_cases c24 : t384 = a0_3
    rotate_left
    ·rw [if_neg c24] at H
     have c24b0 : (t384 == a0_3) = false := beq_eq_false_iff_ne.mpr c24
     have c24b1 : (t384 != a0_3) = true := bne_iff_ne.mpr c24
     have H' := Aside0.mk H
     clear H
     have hnb40 := NB390_379.out
     have hnc40 := NB379_390.out
     obtain ⟨hcz41_0, hcz41_1, hcz41_2, hcz41_3, hcz41_4⟩ := zc5 BK390
     obtain ⟨hfz41_0, hfz41_1, hfz41_2, hfz41_3, hfz41_4⟩ := zf5 BK390
     obtain ⟨hcz42_0, hcz42_1, hcz42_2, hcz42_3, hcz42_4⟩ := zc5 BK379
     obtain ⟨hfz42_0, hfz42_1, hfz42_2, hfz42_3, hfz42_4⟩ := zf5 BK379
     go_wp2
     go_meet
     case rel => exact ⟨_, (true), (by first | rfl | (simp; done) | (simp [*]; done)), H', ⟨by have := HJ2.out; first | omega | exact Nat.le_refl _⟩, ⟨by refine bx ?_; refine blk_far ?_ NB379_390.out _; refine bx ?_; refine blk_far ?_ NB379_390.out _; refine bx ?_; refine blk_far ?_ NB379_390.out _; refine bx ?_; refine blk_far ?_ NB379_390.out _; refine bx ?_; refine blk_far ?_ NB379_390.out _; refine bx ?_; exact BK379.out⟩, ⟨by refine bx ?_; refine blk_put (cs := #[.int .i64 t383, .int .i64 t384, .int .i64 t385, .int .i64 t386, .int .i64 0]) ?_ 4 _ rfl; refine bx ?_; refine blk_put (cs := #[.int .i64 t383, .int .i64 t384, .int .i64 t385, .int .i64 0, .int .i64 0]) ?_ 3 _ rfl; refine bx ?_; refine blk_put (cs := #[.int .i64 t383, .int .i64 t384, .int .i64 0, .int .i64 0, .int .i64 0]) ?_ 2 _ rfl; refine bx ?_; refine blk_put (cs := #[.int .i64 t383, .int .i64 0, .int .i64 0, .int .i64 0, .int .i64 0]) ?_ 1 _ rfl; refine bx ?_; refine blk_put (cs := #[.int .i64 0, .int .i64 0, .int .i64 0, .int .i64 0, .int .i64 0]) ?_ 0 _ rfl; refine bx ?_; exact BK390.out⟩, ⟨by repeat (first | (with_reducible first | exact HB.out | apply below_alloc | apply pw_below_drewN | apply below_drew1 | refine below_set ?_ GE379.out | refine below_set ?_ GE390.out) | exact HB.out)⟩⟩
    rw [if_pos c24] at H
    have c24b0 : (t384 == a0_3) = true := beq_iff_eq.mpr c24
    have c24b1 : (t384 != a0_3) = false := bne_eq_false_iff_eq.mpr c24
    clear c24
    by_cases c25 : t386 = a0_2
    rotate_left
    ·rw [if_neg c25] at H
     have c25b0 : (t386 == a0_2) = false := beq_eq_false_iff_ne.mpr c25
     have c25b1 : (t386 != a0_2) = true := bne_iff_ne.mpr c25
     have H' := Aside0.mk H
     clear H
     have hnb37 := NB390_379.out
     have hnc37 := NB379_390.out
     obtain ⟨hcz38_0, hcz38_1, hcz38_2, hcz38_3, hcz38_4⟩ := zc5 BK390
     obtain ⟨hfz38_0, hfz38_1, hfz38_2, hfz38_3, hfz38_4⟩ := zf5 BK390
     obtain ⟨hcz39_0, hcz39_1, hcz39_2, hcz39_3, hcz39_4⟩ := zc5 BK379
     obtain ⟨hfz39_0, hfz39_1, hfz39_2, hfz39_3, hfz39_4⟩ := zf5 BK379
     go_wp2
     go_meet
     case rel => exact ⟨_, (true), (by first | rfl | (simp; done) | (simp [*]; done)), H', ⟨by have := HJ2.out; first | omega | exact Nat.le_refl _⟩, ⟨by refine bx ?_; refine blk_far ?_ NB379_390.out _; refine bx ?_; refine blk_far ?_ NB379_390.out _; refine bx ?_; refine blk_far ?_ NB379_390.out _; refine bx ?_; refine blk_far ?_ NB379_390.out _; refine bx ?_; refine blk_far ?_ NB379_390.out _; refine bx ?_; exact BK379.out⟩, ⟨by refine bx ?_; refine blk_put (cs := #[.int .i64 t383, .int .i64 t384, .int .i64 t385, .int .i64 t386, .int .i64 0]) ?_ 4 _ rfl; refine bx ?_; refine blk_put (cs := #[.int .i64 t383, .int .i64 t384, .int .i64 t385, .int .i64 0, .int .i64 0]) ?_ 3 _ rfl; refine bx ?_; refine blk_put (cs := #[.int .i64 t383, .int .i64 t384, .int .i64 0, .int .i64 0, .int .i64 0]) ?_ 2 _ rfl; refine bx ?_; refine blk_put (cs := #[.int .i64 t383, .int .i64 0, .int .i64 0, .int .i64 0, .int .i64 0]) ?_ 1 _ rfl; refine bx ?_; refine blk_put (cs := #[.int .i64 0, .int .i64 0, .int .i64 0, .int .i64 0, .int .i64 0]) ?_ 0 _ rfl; refine bx ?_; exact BK390.out⟩, ⟨by repeat (first | (with_reducible first | exact HB.out | apply below_alloc | apply pw_below_drewN | apply below_drew1 | refine below_set ?_ GE379.out | refine below_set ?_ GE390.out) | exact HB.out)⟩⟩
    rw [if_pos c25] at H
    have c25b0 : (t386 == a0_2) = true := beq_iff_eq.mpr c25
    have c25b1 : (t386 != a0_2) = false := bne_eq_false_iff_eq.mpr c25
    clear c25
    by_cases c26 : t387 = 0
    rotate_left
    ·rw [if_neg c26] at H
     have c26b0 : (t387 == 0) = false := beq_eq_false_iff_ne.mpr c26
     have c26b1 : (t387 != 0) = true := bne_iff_ne.mpr c26
     have H' := Aside0.mk H
     clear H
     have hnb34 := NB390_379.out
     have hnc34 := NB379_390.out
     obtain ⟨hcz35_0, hcz35_1, hcz35_2, hcz35_3, hcz35_4⟩ := zc5 BK390
     obtain ⟨hfz35_0, hfz35_1, hfz35_2, hfz35_3, hfz35_4⟩ := zf5 BK390
     obtain ⟨hcz36_0, hcz36_1, hcz36_2, hcz36_3, hcz36_4⟩ := zc5 BK379
     obtain ⟨hfz36_0, hfz36_1, hfz36_2, hfz36_3, hfz36_4⟩ := zf5 BK379
     go_wp2
     go_meet
     case rel => exact ⟨_, (true), (by first | rfl | (simp; done) | (simp [*]; done)), H', ⟨by have := HJ2.out; first | omega | exact Nat.le_refl _⟩, ⟨by refine bx ?_; refine blk_far ?_ NB379_390.out _; refine bx ?_; refine blk_far ?_ NB379_390.out _; refine bx ?_; refine blk_far ?_ NB379_390.out _; refine bx ?_; refine blk_far ?_ NB379_390.out _; refine bx ?_; refine blk_far ?_ NB379_390.out _; refine bx ?_; exact BK379.out⟩, ⟨by refine bx ?_; refine blk_put (cs := #[.int .i64 t383, .int .i64 t384, .int .i64 t385, .int .i64 t386, .int .i64 0]) ?_ 4 _ rfl; refine bx ?_; refine blk_put (cs := #[.int .i64 t383, .int .i64 t384, .int .i64 t385, .int .i64 0, .int .i64 0]) ?_ 3 _ rfl; refine bx ?_; refine blk_put (cs := #[.int .i64 t383, .int .i64 t384, .int .i64 0, .int .i64 0, .int .i64 0]) ?_ 2 _ rfl; refine bx ?_; refine blk_put (cs := #[.int .i64 t383, .int .i64 0, .int .i64 0, .int .i64 0, .int .i64 0]) ?_ 1 _ rfl; refine bx ?_; refine blk_put (cs := #[.int .i64 0, .int .i64 0, .int .i64 0, .int .i64 0, .int .i64 0]) ?_ 0 _ rfl; refine bx ?_; exact BK390.out⟩, ⟨by repeat (first | (with_reducible first | exact HB.out | apply below_alloc | apply pw_below_drewN | apply below_drew1 | refine below_set ?_ GE379.out | refine below_set ?_ GE390.out) | exact HB.out)⟩⟩
    rw [if_pos c26] at H
    have c26b0 : (t387 == 0) = true := beq_iff_eq.mpr c26
    have c26b1 : (t387 != 0) = false := bne_eq_false_iff_eq.mpr c26
    clear c26
    by_cases c27 : t385 = 0
    rotate_left
    ·rw [if_neg c27] at H
     have c27b0 : (t385 == 0) = false := beq_eq_false_iff_ne.mpr c27
     have c27b1 : (t385 != 0) = true := bne_iff_ne.mpr c27
     have H' := Aside0.mk H
     clear H
     have hnb31 := NB390_379.out
     have hnc31 := NB379_390.out
     obtain ⟨hcz32_0, hcz32_1, hcz32_2, hcz32_3, hcz32_4⟩ := zc5 BK390
     obtain ⟨hfz32_0, hfz32_1, hfz32_2, hfz32_3, hfz32_4⟩ := zf5 BK390
     obtain ⟨hcz33_0, hcz33_1, hcz33_2, hcz33_3, hcz33_4⟩ := zc5 BK379
     obtain ⟨hfz33_0, hfz33_1, hfz33_2, hfz33_3, hfz33_4⟩ := zf5 BK379
     go_wp2
     go_meet
     case rel => exact ⟨_, (true), (by first | rfl | (simp; done) | (simp [*]; done)), H', ⟨by have := HJ2.out; first | omega | exact Nat.le_refl _⟩, ⟨by refine bx ?_; refine blk_far ?_ NB379_390.out _; refine bx ?_; refine blk_far ?_ NB379_390.out _; refine bx ?_; refine blk_far ?_ NB379_390.out _; refine bx ?_; refine blk_far ?_ NB379_390.out _; refine bx ?_; refine blk_far ?_ NB379_390.out _; refine bx ?_; exact BK379.out⟩, ⟨by refine bx ?_; refine blk_put (cs := #[.int .i64 t383, .int .i64 t384, .int .i64 t385, .int .i64 t386, .int .i64 0]) ?_ 4 _ rfl; refine bx ?_; refine blk_put (cs := #[.int .i64 t383, .int .i64 t384, .int .i64 t385, .int .i64 0, .int .i64 0]) ?_ 3 _ rfl; refine bx ?_; refine blk_put (cs := #[.int .i64 t383, .int .i64 t384, .int .i64 0, .int .i64 0, .int .i64 0]) ?_ 2 _ rfl; refine bx ?_; refine blk_put (cs := #[.int .i64 t383, .int .i64 0, .int .i64 0, .int .i64 0, .int .i64 0]) ?_ 1 _ rfl; refine bx ?_; refine blk_put (cs := #[.int .i64 0, .int .i64 0, .int .i64 0, .int .i64 0, .int .i64 0]) ?_ 0 _ rfl; refine bx ?_; exact BK390.out⟩, ⟨by repeat (first | (with_reducible first | exact HB.out | apply below_alloc | apply pw_below_drewN | apply below_drew1 | refine below_set ?_ GE379.out | refine below_set ?_ GE390.out) | exact HB.out)⟩⟩
    rw [if_pos c27] at H
    have c27b0 : (t385 == 0) = true := beq_iff_eq.mpr c27
    have c27b1 : (t385 != 0) = false := bne_eq_false_iff_eq.mpr c27
    clear c27
    have H' := Aside0.mk H
    clear H
    have hnb28 := NB390_379.out
    have hnc28 := NB379_390.out
    obtain ⟨hcz29_0, hcz29_1, hcz29_2, hcz29_3, hcz29_4⟩ := zc5 BK390
    obtain ⟨hfz29_0, hfz29_1, hfz29_2, hfz29_3, hfz29_4⟩ := zf5 BK390
    obtain ⟨hcz30_0, hcz30_1, hcz30_2, hcz30_3, hcz30_4⟩ := zc5 BK379
    obtain ⟨hfz30_0, hfz30_1, hfz30_2, hfz30_3, hfz30_4⟩ := zf5 BK379
    go_wp2
    go_meet
    case rel => exact ⟨_, (((t388.size : Int) != (wrap64 (a0_0 - 16)))), (by first | rfl | (simp; done) | (simp [*]; done)), H', ⟨by have := HJ2.out; first | omega | exact Nat.le_refl _⟩, ⟨by refine bx ?_; refine blk_far ?_ NB379_390.out _; refine bx ?_; refine blk_far ?_ NB379_390.out _; refine bx ?_; refine blk_far ?_ NB379_390.out _; refine bx ?_; refine blk_far ?_ NB379_390.out _; refine bx ?_; refine blk_far ?_ NB379_390.out _; refine bx ?_; exact BK379.out⟩, ⟨by refine bx ?_; refine blk_put (cs := #[.int .i64 t383, .int .i64 t384, .int .i64 t385, .int .i64 t386, .int .i64 0]) ?_ 4 _ rfl; refine bx ?_; refine blk_put (cs := #[.int .i64 t383, .int .i64 t384, .int .i64 t385, .int .i64 0, .int .i64 0]) ?_ 3 _ rfl; refine bx ?_; refine blk_put (cs := #[.int .i64 t383, .int .i64 t384, .int .i64 0, .int .i64 0, .int .i64 0]) ?_ 2 _ rfl; refine bx ?_; refine blk_put (cs := #[.int .i64 t383, .int .i64 0, .int .i64 0, .int .i64 0, .int .i64 0]) ?_ 1 _ rfl; refine bx ?_; refine blk_put (cs := #[.int .i64 0, .int .i64 0, .int .i64 0, .int .i64 0, .int .i64 0]) ?_ 0 _ rfl; refine bx ?_; exact BK390.out⟩, ⟨by repeat (first | (with_reducible first | exact HB.out | apply below_alloc | apply pw_below_drewN | apply below_drew1 | refine below_set ?_ GE379.out | refine below_set ?_ GE390.out) | exact HB.out)⟩⟩
   case rest =>
    clear HC17
    try clear c1
    try clear c2
    try clear p2
    try clear c3
    try clear c4
    try clear c6
    try clear p6
    try clear c7
    try clear c7b0
    try clear c7b1
    try clear c8
    try clear c9
    try clear c9b0
    try clear c9b1
    try clear c10
    try clear c10b0
    try clear c10b1
    try clear c20
    try clear c21
    try clear c22
    try clear c22b0
    try clear c22b1
    try clear c23
    try clear c23b0
    try clear c23b1
    try clear c24
    try clear c24b0
    try clear c24b1
    try clear c25
    try clear c25b0
    try clear c25b1
    try clear c26
    try clear c26b0
    try clear c26b1
    try clear c27
    try clear c27b0
    try clear c27b1
    try clear c28
    try clear c31
    try clear c34
    try clear c37
    try clear c40
    try clear c43
    try clear hcz21_0
    try clear hcz21_1
    try clear hcz21_2
    try clear hcz21_3
    try clear hcz21_4
    try clear hcz29_0
    try clear hcz29_1
    try clear hcz29_2
    try clear hcz29_3
    try clear hcz29_4
    try clear hcz30_0
    try clear hcz30_1
    try clear hcz30_2
    try clear hcz30_3
    try clear hcz30_4
    try clear hcz32_0
    try clear hcz32_1
    try clear hcz32_2
    try clear hcz32_3
    try clear hcz32_4
    try clear hcz33_0
    try clear hcz33_1
    try clear hcz33_2
    try clear hcz33_3
    try clear hcz33_4
    try clear hcz35_0
    try clear hcz35_1
    try clear hcz35_2
    try clear hcz35_3
    try clear hcz35_4
    try clear hcz36_0
    try clear hcz36_1
    try clear hcz36_2
    try clear hcz36_3
    try clear hcz36_4
    try clear hcz38_0
    try clear hcz38_1
    try clear hcz38_2
    try clear hcz38_3
    try clear hcz38_4
    try clear hcz39_0
    try clear hcz39_1
    try clear hcz39_2
    try clear hcz39_3
    try clear hcz39_4
    try clear hcz41_0
    try clear hcz41_1
    try clear hcz41_2
    try clear hcz41_3
    try clear hcz41_4
    try clear hcz42_0
    try clear hcz42_1
    try clear hcz42_2
    try clear hcz42_3
    try clear hcz42_4
    try clear hcz44_0
    try clear hcz44_1
    try clear hcz44_2
    try clear hcz44_3
    try clear hcz44_4
    try clear hcz5_0
    try clear hcz5_1
    try clear hcz5_2
    try clear hcz5_3
    try clear hcz5_4
    try clear hfz21_0
    try clear hfz21_1
    try clear hfz21_2
    try clear hfz21_3
    try clear hfz21_4
    try clear hfz29_0
    try clear hfz29_1
    try clear hfz29_2
    try clear hfz29_3
    try clear hfz29_4
    try clear hfz30_0
    try clear hfz30_1
    try clear hfz30_2
    try clear hfz30_3
    try clear hfz30_4
    try clear hfz32_0
    try clear hfz32_1
    try clear hfz32_2
    try clear hfz32_3
    try clear hfz32_4
    try clear hfz33_0
    try clear hfz33_1
    try clear hfz33_2
    try clear hfz33_3
    try clear hfz33_4
    try clear hfz35_0
    try clear hfz35_1
    try clear hfz35_2
    try clear hfz35_3
    try clear hfz35_4
    try clear hfz36_0
    try clear hfz36_1
    try clear hfz36_2
    try clear hfz36_3
    try clear hfz36_4
    try clear hfz38_0
    try clear hfz38_1
    try clear hfz38_2
    try clear hfz38_3
    try clear hfz38_4
    try clear hfz39_0
    try clear hfz39_1
    try clear hfz39_2
    try clear hfz39_3
    try clear hfz39_4
    try clear hfz41_0
    try clear hfz41_1
    try clear hfz41_2
    try clear hfz41_3
    try clear hfz41_4
    try clear hfz42_0
    try clear hfz42_1
    try clear hfz42_2
    try clear hfz42_3
    try clear hfz42_4
    try clear hfz44_0
    try clear hfz44_1
    try clear hfz44_2
    try clear hfz44_3
    try clear hfz44_4
    try clear hfz5_0
    try clear hfz5_1
    try clear hfz5_2
    try clear hfz5_3
    try clear hfz5_4
    try clear p2
    obtain ⟨kq, x94_16, rfl, HA, HJ16, BK379, BK390, HB⟩ := hcut
    cases kq with
    | zero => exact absurd HA.out (by simp [withylaw13_MetaFields.j1])
    | succ kj16 =>
     have H := HA.out
     clear HA
     simp only [withylaw13_MetaFields.j1] at H
     by_cases c45 : x94_16 = true
     ·subst c45
      have H1 : (none) = some r := by rw [if_pos rfl] at H; exact H
      clear H
      have H := H1
      clear H1
      exact absurd H (by simp)
     replace c45 := Bool.eq_false_iff.mpr c45
     subst c45
     have H1 : (if 0 ≤ 5 then (if 5 ≤ (t388.size : Int) then (if (t388.extract 0 5).toList = ([119, 105, 116, 104, 121] : List UInt8) then (if (wrap64 (t391)) = a0_0 then (if (wrap64 (t393)) = a0_1 then (if (wrap64 (t395)) = a0_4 then (if 17 ≤ (wrap64 ((t388.size : Int) - 1)) then (if (wrap64 ((t388.size : Int) - 1)) ≤ (t388.size : Int) then ((withyref01_Repeat.f kj16 0 (wrap64 ((t388.size : Int) - 18))).bind fun t397 => (if (t388.extract 17 ((wrap64 ((t388.size : Int) - 1)) : Int).toNat).toList = t397.toList then (if 0 ≤ (wrap64 ((t388.size : Int) - 1)) then (if (wrap64 ((t388.size : Int) - 1)) < (t388.size : Int) then (if (bt t388 (wrap64 ((t388.size : Int) - 1))) = 87 then ((withylaw13_fixed.f kj16).bind fun t398 => (some t398)) else (none)) else (none)) else (none)) else (none))) else (none)) else (none)) else (none)) else (none)) else (none)) else (none)) else (none)) else (none)) = some r := by rw [if_neg (show ¬ (false = true) by decide)] at H; exact H
     clear H
     have H := H1
     clear H1
     by_cases c46 : 0 ≤ 5
     rotate_left
     ·rw [if_neg c46] at H
      exact absurd H (by simp)
 
     rw [if_pos c46] at H
     have c46b0 := eq_true c46
     have c46b1 : decide (0 ≤ 5) = true := decide_eq_true c46
     clear c46
     by_cases c47 : 5 ≤ (t388.size : Int)
     rotate_left
     ·rw [if_neg c47] at H
      exact absurd H (by simp)
     rw [if_pos c47] at H
     have c47b0 := eq_true c47
     have c47b1 : decide (5 ≤ (t388.size : Int)) = true := decide_eq_true c47
     clear c47
     obtain ⟨js48, hjs48⟩ : ∃ j_ : ByteArray, (t388.extract 0 5) = j_ := ⟨_, rfl⟩
     replace H : (if (js48).toList = ([119, 105, 116, 104, 121] : List UInt8) then (if (wrap64 (t391)) = a0_0 then (if (wrap64 (t393)) = a0_1 then (if (wrap64 (t395)) = a0_4 then (if 17 ≤ (wrap64 ((t388.size : Int) - 1)) then (if (wrap64 ((t388.size : Int) - 1)) ≤ (t388.size : Int) then ((withyref01_Repeat.f kj16 0 (wrap64 ((t388.size : Int) - 18))).bind fun t397 => (if (t388.extract 17 ((wrap64 ((t388.size : Int) - 1)) : Int).toNat).toList = t397.toList then (if 0 ≤ (wrap64 ((t388.size : Int) - 1)) then (if (wrap64 ((t388.size : Int) - 1)) < (t388.size : Int) then (if (bt t388 (wrap64 ((t388.size : Int) - 1))) = 87 then ((withylaw13_fixed.f kj16).bind fun t398 => (some t398)) else (none)) else (none)) else (none)) else (none))) else (none)) else (none)) else (none)) else (none)) else (none)) else (none)) = some r := by first | (rw [hjs48] at H; exact H) | (simp only [hjs48] at H ⊢; exact H)
     by_cases c49 : (js48).toList = ([119, 105, 116, 104, 121] : List UInt8)
     rotate_left
     ·rw [if_neg c49] at H
      exact absurd H (by simp)
     rw [if_pos c49] at H
     have c49b0 : ((js48).toList == ([119, 105, 116, 104, 121] : List UInt8)) = true := beq_iff_eq.mpr c49
     have c49b1 : ((js48).toList != ([119, 105, 116, 104, 121] : List UInt8)) = false := bne_eq_false_iff_eq.mpr c49
     clear c49
     by_cases c50 : (wrap64 (t391)) = a0_0
     rotate_left
     ·rw [if_neg c50] at H
      exact absurd H (by simp)
     rw [if_pos c50] at H
     have c50b0 : ((wrap64 (t391)) == a0_0) = true := beq_iff_eq.mpr c50
     have c50b1 : ((wrap64 (t391)) != a0_0) = false := bne_eq_false_iff_eq.mpr c50
     clear c50
     by_cases c51 : (wrap64 (t393)) = a0_1
     rotate_left
     ·rw [if_neg c51] at H
      exact absurd H (by simp)
     rw [if_pos c51] at H
     have c51b0 : ((wrap64 (t393)) == a0_1) = true := beq_iff_eq.mpr c51
     have c51b1 : ((wrap64 (t393)) != a0_1) = false := bne_eq_false_iff_eq.mpr c51
     clear c51
     by_cases c52 : (wrap64 (t395)) = a0_4
     rotate_left
     ·rw [if_neg c52] at H
      exact absurd H (by simp)
     rw [if_pos c52] at H
     have c52b0 : ((wrap64 (t395)) == a0_4) = true := beq_iff_eq.mpr c52
     have c52b1 : ((wrap64 (t395)) != a0_4) = false := bne_eq_false_iff_eq.mpr c52
     clear c52
     by_cases c53 : 17 ≤ (wrap64 ((t388.size : Int) - 1))
     rotate_left
     ·rw [if_neg c53] at H
      exact absurd H (by simp)
     rw [if_pos c53] at H
     have c53b0 := eq_true c53
     have c53b1 : decide (17 ≤ (wrap64 ((t388.size : Int) - 1))) = true := decide_eq_true c53
     clear c53
     by_cases c54 : (wrap64 ((t388.size : Int) - 1)) ≤ (t388.size : Int)
     rotate_left
     ·rw [if_neg c54] at H
      exact absurd H (by simp)
     rw [if_pos c54] at H
     have c54b0 := eq_true c54
     have c54b1 : decide ((wrap64 ((t388.size : Int) - 1)) ≤ (t388.size : Int)) = true := decide_eq_true c54
     clear c54
     obtain ⟨js55, hjs55⟩ : ∃ j_ : ByteArray, (t388.extract 17 ((wrap64 ((t388.size : Int) - 1)) : Int).toNat) = j_ := ⟨_, rfl⟩
     replace H : ((withyref01_Repeat.f kj16 0 (wrap64 ((t388.size : Int) - 18))).bind fun t397 => (if (js55).toList = t397.toList then (if 0 ≤ (wrap64 ((t388.size : Int) - 1)) then (if (wrap64 ((t388.size : Int) - 1)) < (t388.size : Int) then (if (bt t388 (wrap64 ((t388.size : Int) - 1))) = 87 then ((withylaw13_fixed.f kj16).bind fun t398 => (some t398)) else (none)) else (none)) else (none)) else (none))) = some r := by first | (rw [hjs55] at H; exact H) | (simp only [hjs55] at H ⊢; exact H)
     replace H := bM H
     obtain ⟨t397, A560, H⟩ := H
     replace H : (if (js55).toList = t397.toList then (if 0 ≤ (wrap64 ((t388.size : Int) - 1)) then (if (wrap64 ((t388.size : Int) - 1)) < (t388.size : Int) then (if (bt t388 (wrap64 ((t388.size : Int) - 1))) = 87 then ((withylaw13_fixed.f kj16).bind fun t398 => (some t398)) else (none)) else (none)) else (none)) else (none)) = some r := H
     have A56 := Aside0.mk A560
     clear A560
     by_cases c57 : (js55).toList = t397.toList
     rotate_left
     ·rw [if_neg c57] at H
      exact absurd H (by simp)
     rw [if_pos c57] at H
     have c57b0 : ((js55).toList == t397.toList) = true := beq_iff_eq.mpr c57
     have c57b1 : ((js55).toList != t397.toList) = false := bne_eq_false_iff_eq.mpr c57
     clear c57
     obtain ⟨ji58, hji58⟩ : ∃ j_ : Int, (wrap64 ((t388.size : Int) - 1)) = j_ := ⟨_, rfl⟩
     (try rw [hji58] at hjs55)
     replace H : (if 0 ≤ (ji58) then (if (ji58) < (t388.size : Int) then (if (bt t388 (ji58)) = 87 then ((withylaw13_fixed.f kj16).bind fun t398 => (some t398)) else (none)) else (none)) else (none)) = some r := by first | (rw [hji58] at H; exact H) | (simp only [hji58] at H ⊢; exact H)
     (try rw [hji58] at c53b0)
     (try rw [hji58] at c53b1)
     (try rw [hji58] at c54b0)
     (try rw [hji58] at c54b1)
     (try rw [hji58] at A56)
     have hji58w : (IntKind.i64.wrap ((t388.size : Int) - 1)) = ji58 := (i64_w _).trans hji58
     by_cases c59 : 0 ≤ (ji58)
     rotate_left
     ·rw [if_neg c59] at H
      exact absurd H (by simp)
     rw [if_pos c59] at H
     have c59b0 : decide (0 ≤ (ji58)) = true := decide_eq_true c59
     clear c59
     by_cases c60 : (ji58) < (t388.size : Int)
     rotate_left
     ·rw [if_neg c60] at H
      exact absurd H (by simp)
     rw [if_pos c60] at H
     have c60b0 : decide ((ji58) < (t388.size : Int)) = true := decide_eq_true c60
     clear c60
     by_cases c62 : (bt t388 (ji58)) = 87
     rotate_left
     ·rw [if_neg c62] at H
      exact absurd H (by simp)
     rw [if_pos c62] at H
     have c62b0 : ((bt t388 (ji58)) == 87) = true := beq_iff_eq.mpr c62
     have c62b1 : ((bt t388 (ji58)) != 87) = false := bne_eq_false_iff_eq.mpr c62
     clear c62
     replace H := bM H
     obtain ⟨t398, A630, H⟩ := H
     replace H : (some t398) = some r := H
     have A63 := Aside0.mk A630
     clear A630
     obtain rfl := Option.some.inj H
     try go_wp2
     replace BK379 := as_ (blk_drew BK379.out)
     replace BK390 := as_ (blk_drew BK390.out)
     replace HB := as_ (below_drew1 HB.out)
     refine start_ (n := 48) (S := fun w' => w'.cell? ⟨gb379, 0, none⟩ = some (.int .i64 a0_0) ∧ w'.cell? ⟨gb379, 1, none⟩ = some (.int .i64 a0_1) ∧ w'.cell? ⟨gb379, 2, none⟩ = some (.int .i64 a0_2) ∧ w'.cell? ⟨gb379, 3, none⟩ = some (.int .i64 a0_3) ∧ w'.cell? ⟨gb379, 4, none⟩ = some (.int .i64 a0_4)) (ds := []) #[ff, ff, ff, ff, ff, ff, ff, ff, ff, ff, ff, ff, ff, ff, ff, ff, ff, ff, ff, ff, ff, ff, ff, ff, ff, ff, ff, ff, ff, ff, ff, ff, ff, ff, ff, ff, ff, ff, ff, ff, ff, ff, ff, ff, ff, ff, ff, ff] (by kernel_rfl) rfl rfl ⟨(blk_cell BK379.out 0).trans rfl, (blk_cell BK379.out 1).trans rfl, (blk_cell BK379.out 2).trans rfl, (blk_cell BK379.out 3).trans rfl, (blk_cell BK379.out 4).trans rfl⟩ (fun hHeld => ?_); refine with_tabW withylaw13_MetaFields.tab10 withylaw13_MetaFields.bits10 (fun HT_ HW_ => ?_)
     generalize wc.drew = w64 at BK379 BK390 HB hHeld ⊢
     refine pure_ (i := 0) (N := some 95) (v := ?_) (a' := ?_) #[tt, ff, ff, ff, ff, ff, ff, ff, ff, ff, ff, ff, ff, ff, ff, ff, ff, ff, ff, ff, ff, ff, ff, ff, ff, ff, ff, ff, ff, ff, ff, ff, ff, ff, ff, ff, ff, ff, ff, ff, ff, ff, ff, ff, ff, ff, ff, ff] rfl rfl (any_of HT_.out (by kernel_rfl)) (fun _ _ _ h => h) (Or.inl ⟨by rfl, ?_⟩) ?_ ?_
     rotate_left
     ·intro w'
      go_simp
      with_reducible rfl
     rotate_left
     ·exact aP
     refine pure_ (i := 1) (N := some 96) (v := ?_) (a' := ?_) #[tt, tt, ff, ff, ff, ff, ff, ff, ff, ff, ff, ff, ff, ff, ff, ff, ff, ff, ff, ff, ff, ff, ff, ff, ff, ff, ff, ff, ff, ff, ff, ff, ff, ff, ff, ff, ff, ff, ff, ff, ff, ff, ff, ff, ff, ff, ff, ff] rfl rfl (any_of HT_.out (by kernel_rfl)) (fun _ _ _ h => h) (Or.inl ⟨by rfl, ?_⟩) ?_ ?_
     rotate_left
     ·intro w'
      go_simp
      with_reducible rfl
     rotate_left
     ·exact aP
     refine pure_ (i := 2) (N := some 97) (v := ?_) (a' := ?_) #[tt, tt, tt, ff, ff, ff, ff, ff, ff, ff, ff, ff, ff, ff, ff, ff, ff, ff, ff, ff, ff, ff, ff, ff, ff, ff, ff, ff, ff, ff, ff, ff, ff, ff, ff, ff, ff, ff, ff, ff, ff, ff, ff, ff, ff, ff, ff, ff] rfl rfl (any_of HT_.out (by kernel_rfl)) (fun _ _ _ h => h) (Or.inl ⟨by rfl, ?_⟩) ?_ ?_
     rotate_left
     ·intro w'
      go_simp
      with_reducible rfl
     rotate_left
     ·exact aP
     refine pure_ (i := 3) (N := some 98) (v := ?_) (a' := ?_) #[tt, tt, tt, tt, ff, ff, ff, ff, ff, ff, ff, ff, ff, ff, ff, ff, ff, ff, ff, ff, ff, ff, ff, ff, ff, ff, ff, ff, ff, ff, ff, ff, ff, ff, ff, ff, ff, ff, ff, ff, ff, ff, ff, ff, ff, ff, ff, ff] rfl rfl (any_of HT_.out (by kernel_rfl)) (fun _ _ _ h => h) (Or.inl ⟨by rfl, ?_⟩) ?_ ?_
     rotate_left
     ·intro w'
      go_simp
      with_reducible rfl
     rotate_left
     ·exact aP
     refine pure_ (i := 4) (N := some 99) (v := ?_) (a' := ?_) #[tt, tt, tt, tt, tt, ff, ff, ff, ff, ff, ff, ff, ff, ff, ff, ff, ff, ff, ff, ff, ff, ff, ff, ff, ff, ff, ff, ff, ff, ff, ff, ff, ff, ff, ff, ff, ff, ff, ff, ff, ff, ff, ff, ff, ff, ff, ff, ff] rfl rfl (any_of HT_.out (by kernel_rfl)) (fun _ _ _ h => h) (Or.inl ⟨by rfl, ?_⟩) ?_ ?_
     rotate_left
     ·intro w'
      go_simp
      with_reducible rfl
     rotate_left
     ·exact aP
     refine pure_ (i := 5) (N := some 100) (v := ?_) (a' := ?_) #[tt, tt, tt, tt, tt, tt, ff, ff, ff, ff, ff, ff, ff, ff, ff, ff, ff, ff, ff, ff, ff, ff, ff, ff, ff, ff, ff, ff, ff, ff, ff, ff, ff, ff, ff, ff, ff, ff, ff, ff, ff, ff, ff, ff, ff, ff, ff, ff] rfl rfl (any_of HT_.out (by kernel_rfl)) (fun _ _ _ h => h) (Or.inl ⟨by rfl, ?_⟩) ?_ ?_
     rotate_left
     ·intro w'
      go_simp
      with_reducible rfl
     rotate_left
     ·exact aP
     refine pure_ (i := 6) (N := some 101) (v := ?_) (a' := ?_) #[tt, tt, tt, tt, tt, tt, tt, ff, ff, ff, ff, ff, ff, ff, ff, ff, ff, ff, ff, ff, ff, ff, ff, ff, ff, ff, ff, ff, ff, ff, ff, ff, ff, ff, ff, ff, ff, ff, ff, ff, ff, ff, ff, ff, ff, ff, ff, ff] rfl rfl (any_of HT_.out (by kernel_rfl)) (fun _ _ _ h => h) (Or.inl ⟨by rfl, ?_⟩) ?_ ?_
     rotate_left
     ·intro w'
      go_simp
      with_reducible rfl
     rotate_left
     ·exact aP
     refine take_ (i := 7) (N := some 102) (v := ?_) (a' := ?_) #[tt, tt, tt, tt, tt, tt, tt, tt, ff, ff, ff, ff, ff, ff, ff, ff, ff, ff, ff, ff, ff, ff, ff, ff, ff, ff, ff, ff, ff, ff, ff, ff, ff, ff, ff, ff, ff, ff, ff, ff, ff, ff, ff, ff, ff, ff, ff, ff] rfl rfl (take_ofW HT_.out HW_.out (by kernel_rfl)) (fun _ _ _ h => h) (Or.inl ⟨by rfl, ?_⟩) hHeld ?_ ?_
     rotate_left
     ·rintro w' ⟨s0, s1, s2, s3, s4⟩
      go_simp
      with_reducible rfl
     rotate_left
     ·exact aP
     refine pure_ (i := 8) (N := some 103) (v := ?_) (a' := ?_) #[tt, tt, tt, tt, tt, tt, tt, tt, tt, ff, ff, ff, ff, ff, ff, ff, ff, ff, ff, ff, ff, ff, ff, ff, ff, ff, ff, ff, ff, ff, ff, ff, ff, ff, ff, ff, ff, ff, ff, ff, ff, ff, ff, ff, ff, ff, ff, ff] rfl rfl (any_of HT_.out (by kernel_rfl)) (fun _ _ _ h => h) (Or.inl ⟨by rfl, ?_⟩) ?_ ?_
     rotate_left
     ·intro w'
      go_simp
      with_reducible rfl
     rotate_left
     ·exact aP
     refine pure_ (i := 9) (N := some 104) (v := ?_) (a' := ?_) #[tt, tt, tt, tt, tt, tt, tt, tt, tt, tt, ff, ff, ff, ff, ff, ff, ff, ff, ff, ff, ff, ff, ff, ff, ff, ff, ff, ff, ff, ff, ff, ff, ff, ff, ff, ff, ff, ff, ff, ff, ff, ff, ff, ff, ff, ff, ff, ff] rfl rfl (any_of HT_.out (by kernel_rfl)) (fun _ _ _ h => h) (Or.inl ⟨by rfl, ?_⟩) ?_ ?_
     rotate_left
     ·intro w'
      go_simp
      with_reducible rfl
     rotate_left
     ·exact aP
     refine pure_ (i := 10) (N := some 105) (v := ?_) (a' := ?_) #[tt, tt, tt, tt, tt, tt, tt, tt, tt, tt, tt, ff, ff, ff, ff, ff, ff, ff, ff, ff, ff, ff, ff, ff, ff, ff, ff, ff, ff, ff, ff, ff, ff, ff, ff, ff, ff, ff, ff, ff, ff, ff, ff, ff, ff, ff, ff, ff] rfl rfl (any_of HT_.out (by kernel_rfl)) (fun _ _ _ h => h) (Or.inl ⟨by rfl, ?_⟩) ?_ ?_
     rotate_left
     ·intro w'
      go_simp
      with_reducible rfl
     rotate_left
     ·exact aP
     refine pure_ (i := 11) (N := some 106) (v := ?_) (a' := ?_) #[tt, tt, tt, tt, tt, tt, tt, tt, tt, tt, tt, tt, ff, ff, ff, ff, ff, ff, ff, ff, ff, ff, ff, ff, ff, ff, ff, ff, ff, ff, ff, ff, ff, ff, ff, ff, ff, ff, ff, ff, ff, ff, ff, ff, ff, ff, ff, ff] rfl rfl (any_of HT_.out (by kernel_rfl)) (fun _ _ _ h => h) (Or.inl ⟨by rfl, ?_⟩) ?_ ?_
     rotate_left
     ·intro w'
      go_simp
      with_reducible rfl
     rotate_left
     ·exact aP
     refine pure_ (i := 12) (N := some 107) (v := ?_) (a' := ?_) #[tt, tt, tt, tt, tt, tt, tt, tt, tt, tt, tt, tt, tt, ff, ff, ff, ff, ff, ff, ff, ff, ff, ff, ff, ff, ff, ff, ff, ff, ff, ff, ff, ff, ff, ff, ff, ff, ff, ff, ff, ff, ff, ff, ff, ff, ff, ff, ff] rfl rfl (any_of HT_.out (by kernel_rfl)) (fun _ _ _ h => h) (Or.inl ⟨by rfl, ?_⟩) ?_ ?_
     rotate_left
     ·intro w'
      go_simp
      with_reducible rfl
     rotate_left
     ·exact aP
     refine pure_ (i := 13) (N := some 108) (v := ?_) (a' := ?_) #[tt, tt, tt, tt, tt, tt, tt, tt, tt, tt, tt, tt, tt, tt, ff, ff, ff, ff, ff, ff, ff, ff, ff, ff, ff, ff, ff, ff, ff, ff, ff, ff, ff, ff, ff, ff, ff, ff, ff, ff, ff, ff, ff, ff, ff, ff, ff, ff] rfl rfl (any_of HT_.out (by kernel_rfl)) (fun _ _ _ h => h) (Or.inl ⟨by rfl, ?_⟩) ?_ ?_
     rotate_left
     ·intro w'
      go_simp
      with_reducible rfl
     rotate_left
     ·exact aP
     refine take_ (i := 14) (N := some 109) (v := ?_) (a' := ?_) #[tt, tt, tt, tt, tt, tt, tt, tt, tt, tt, tt, tt, tt, tt, tt, ff, ff, ff, ff, ff, ff, ff, ff, ff, ff, ff, ff, ff, ff, ff, ff, ff, ff, ff, ff, ff, ff, ff, ff, ff, ff, ff, ff, ff, ff, ff, ff, ff] rfl rfl (take_ofW HT_.out HW_.out (by kernel_rfl)) (fun _ _ _ h => h) (Or.inl ⟨by rfl, ?_⟩) hHeld ?_ ?_
     rotate_left
     ·rintro w' ⟨s0, s1, s2, s3, s4⟩
      go_simp
      with_reducible rfl
     rotate_left
     ·exact aP
     refine pure_ (i := 15) (N := some 110) (v := ?_) (a' := ?_) #[tt, tt, tt, tt, tt, tt, tt, tt, tt, tt, tt, tt, tt, tt, tt, tt, ff, ff, ff, ff, ff, ff, ff, ff, ff, ff, ff, ff, ff, ff, ff, ff, ff, ff, ff, ff, ff, ff, ff, ff, ff, ff, ff, ff, ff, ff, ff, ff] rfl rfl (any_of HT_.out (by kernel_rfl)) (fun _ _ _ h => h) (Or.inl ⟨by rfl, ?_⟩) ?_ ?_
     rotate_left
     ·intro w'
      go_simp
      with_reducible rfl
     rotate_left
     ·exact aP
     refine pure_ (i := 16) (N := some 111) (v := ?_) (a' := ?_) #[tt, tt, tt, tt, tt, tt, tt, tt, tt, tt, tt, tt, tt, tt, tt, tt, tt, ff, ff, ff, ff, ff, ff, ff, ff, ff, ff, ff, ff, ff, ff, ff, ff, ff, ff, ff, ff, ff, ff, ff, ff, ff, ff, ff, ff, ff, ff, ff] rfl rfl (any_of HT_.out (by kernel_rfl)) (fun _ _ _ h => h) (Or.inl ⟨by rfl, ?_⟩) ?_ ?_
     rotate_left
     ·intro w'
      go_simp
      with_reducible rfl
     rotate_left
     ·exact aP
     refine pure_ (i := 17) (N := some 112) (v := ?_) (a' := ?_) #[tt, tt, tt, tt, tt, tt, tt, tt, tt, tt, tt, tt, tt, tt, tt, tt, tt, tt, ff, ff, ff, ff, ff, ff, ff, ff, ff, ff, ff, ff, ff, ff, ff, ff, ff, ff, ff, ff, ff, ff, ff, ff, ff, ff, ff, ff, ff, ff] rfl rfl (any_of HT_.out (by kernel_rfl)) (fun _ _ _ h => h) (Or.inl ⟨by rfl, ?_⟩) ?_ ?_
     rotate_left
     ·intro w'
      go_simp
      with_reducible rfl
     rotate_left
     ·exact aP
     refine pure_ (i := 18) (N := some 113) (v := ?_) (a' := ?_) #[tt, tt, tt, tt, tt, tt, tt, tt, tt, tt, tt, tt, tt, tt, tt, tt, tt, tt, tt, ff, ff, ff, ff, ff, ff, ff, ff, ff, ff, ff, ff, ff, ff, ff, ff, ff, ff, ff, ff, ff, ff, ff, ff, ff, ff, ff, ff, ff] rfl rfl (any_of HT_.out (by kernel_rfl)) (fun _ _ _ h => h) (Or.inl ⟨by rfl, ?_⟩) ?_ ?_
     rotate_left
     ·intro w'
      go_simp
      with_reducible rfl
     rotate_left
     ·exact aP
     refine pure_ (i := 19) (N := some 114) (v := ?_) (a' := ?_) #[tt, tt, tt, tt, tt, tt, tt, tt, tt, tt, tt, tt, tt, tt, tt, tt, tt, tt, tt, tt, ff, ff, ff, ff, ff, ff, ff, ff, ff, ff, ff, ff, ff, ff, ff, ff, ff, ff, ff, ff, ff, ff, ff, ff, ff, ff, ff, ff] rfl rfl (any_of HT_.out (by kernel_rfl)) (fun _ _ _ h => h) (Or.inl ⟨by rfl, ?_⟩) ?_ ?_
     rotate_left
     ·intro w'
      go_simp
      with_reducible rfl
     rotate_left
     ·exact aP
     refine pure_ (i := 20) (N := some 115) (v := ?_) (a' := ?_) #[tt, tt, tt, tt, tt, tt, tt, tt, tt, tt, tt, tt, tt, tt, tt, tt, tt, tt, tt, tt, tt, ff, ff, ff, ff, ff, ff, ff, ff, ff, ff, ff, ff, ff, ff, ff, ff, ff, ff, ff, ff, ff, ff, ff, ff, ff, ff, ff] rfl rfl (any_of HT_.out (by kernel_rfl)) (fun _ _ _ h => h) (Or.inl ⟨by rfl, ?_⟩) ?_ ?_
     rotate_left
     ·intro w'
      go_simp
      with_reducible rfl
     rotate_left
     ·exact aP
     refine take_ (i := 21) (N := some 116) (v := ?_) (a' := ?_) #[tt, tt, tt, tt, tt, tt, tt, tt, tt, tt, tt, tt, tt, tt, tt, tt, tt, tt, tt, tt, tt, tt, ff, ff, ff, ff, ff, ff, ff, ff, ff, ff, ff, ff, ff, ff, ff, ff, ff, ff, ff, ff, ff, ff, ff, ff, ff, ff] rfl rfl (take_ofW HT_.out HW_.out (by kernel_rfl)) (fun _ _ _ h => h) (Or.inl ⟨by rfl, ?_⟩) hHeld ?_ ?_
     rotate_left
     ·rintro w' ⟨s0, s1, s2, s3, s4⟩
      go_simp
      with_reducible rfl
     rotate_left
     ·exact aP
     refine pure_ (i := 22) (N := some 117) (v := ?_) (a' := ?_) #[tt, tt, tt, tt, tt, tt, tt, tt, tt, tt, tt, tt, tt, tt, tt, tt, tt, tt, tt, tt, tt, tt, tt, ff, ff, ff, ff, ff, ff, ff, ff, ff, ff, ff, ff, ff, ff, ff, ff, ff, ff, ff, ff, ff, ff, ff, ff, ff] rfl rfl (any_of HT_.out (by kernel_rfl)) (fun _ _ _ h => h) (Or.inl ⟨by rfl, ?_⟩) ?_ ?_
     rotate_left
     ·intro w'
      go_simp
      with_reducible rfl
     rotate_left
     ·exact aP
     refine pure_ (i := 23) (N := some 118) (v := ?_) (a' := ?_) #[tt, tt, tt, tt, tt, tt, tt, tt, tt, tt, tt, tt, tt, tt, tt, tt, tt, tt, tt, tt, tt, tt, tt, tt, ff, ff, ff, ff, ff, ff, ff, ff, ff, ff, ff, ff, ff, ff, ff, ff, ff, ff, ff, ff, ff, ff, ff, ff] rfl rfl (any_of HT_.out (by kernel_rfl)) (fun _ _ _ h => h) (Or.inl ⟨by rfl, ?_⟩) ?_ ?_
     rotate_left
     ·intro w'
      go_simp
      with_reducible rfl
     rotate_left
     ·exact aP
     refine pure_ (i := 24) (N := some 119) (v := ?_) (a' := ?_) #[tt, tt, tt, tt, tt, tt, tt, tt, tt, tt, tt, tt, tt, tt, tt, tt, tt, tt, tt, tt, tt, tt, tt, tt, tt, ff, ff, ff, ff, ff, ff, ff, ff, ff, ff, ff, ff, ff, ff, ff, ff, ff, ff, ff, ff, ff, ff, ff] rfl rfl (any_of HT_.out (by kernel_rfl)) (fun _ _ _ h => h) (Or.inl ⟨by rfl, ?_⟩) ?_ ?_
     rotate_left
     ·intro w'
      go_simp
      with_reducible rfl
     rotate_left
     ·exact aP
     refine pure_ (i := 25) (N := some 120) (v := ?_) (a' := ?_) #[tt, tt, tt, tt, tt, tt, tt, tt, tt, tt, tt, tt, tt, tt, tt, tt, tt, tt, tt, tt, tt, tt, tt, tt, tt, tt, ff, ff, ff, ff, ff, ff, ff, ff, ff, ff, ff, ff, ff, ff, ff, ff, ff, ff, ff, ff, ff, ff] rfl rfl (any_of HT_.out (by kernel_rfl)) (fun _ _ _ h => h) (Or.inl ⟨by rfl, ?_⟩) ?_ ?_
     rotate_left
     ·intro w'
      go_simp
      with_reducible rfl
     rotate_left
     ·exact aP
     refine pure_ (i := 26) (N := some 121) (v := ?_) (a' := ?_) #[tt, tt, tt, tt, tt, tt, tt, tt, tt, tt, tt, tt, tt, tt, tt, tt, tt, tt, tt, tt, tt, tt, tt, tt, tt, tt, tt, ff, ff, ff, ff, ff, ff, ff, ff, ff, ff, ff, ff, ff, ff, ff, ff, ff, ff, ff, ff, ff] rfl rfl (any_of HT_.out (by kernel_rfl)) (fun _ _ _ h => h) (Or.inl ⟨by rfl, ?_⟩) ?_ ?_
     rotate_left
     ·intro w'
      go_simp
      with_reducible rfl
     rotate_left
     ·exact aP
     refine pure_ (i := 27) (N := some 122) (v := ?_) (a' := ?_) #[tt, tt, tt, tt, tt, tt, tt, tt, tt, tt, tt, tt, tt, tt, tt, tt, tt, tt, tt, tt, tt, tt, tt, tt, tt, tt, tt, tt, ff, ff, ff, ff, ff, ff, ff, ff, ff, ff, ff, ff, ff, ff, ff, ff, ff, ff, ff, ff] rfl rfl (any_of HT_.out (by kernel_rfl)) (fun _ _ _ h => h) (Or.inl ⟨by rfl, ?_⟩) ?_ ?_
     rotate_left
     ·intro w'
      go_simp
      with_reducible rfl
     rotate_left
     ·exact aP
     refine pure_ (i := 28) (N := some 123) (v := ?_) (a' := ?_) #[tt, tt, tt, tt, tt, tt, tt, tt, tt, tt, tt, tt, tt, tt, tt, tt, tt, tt, tt, tt, tt, tt, tt, tt, tt, tt, tt, tt, tt, ff, ff, ff, ff, ff, ff, ff, ff, ff, ff, ff, ff, ff, ff, ff, ff, ff, ff, ff] rfl rfl (any_of HT_.out (by kernel_rfl)) (fun _ _ _ h => h) (Or.inl ⟨by rfl, ?_⟩) ?_ ?_
     rotate_left
     ·intro w'
      go_simp
      with_reducible rfl
     rotate_left
     ·exact aP
     refine pure_ (i := 29) (N := some 124) (v := ?_) (a' := ?_) #[tt, tt, tt, tt, tt, tt, tt, tt, tt, tt, tt, tt, tt, tt, tt, tt, tt, tt, tt, tt, tt, tt, tt, tt, tt, tt, tt, tt, tt, tt, ff, ff, ff, ff, ff, ff, ff, ff, ff, ff, ff, ff, ff, ff, ff, ff, ff, ff] rfl rfl (any_of HT_.out (by kernel_rfl)) (fun _ _ _ h => h) (Or.inl ⟨by rfl, ?_⟩) ?_ ?_
     rotate_left
     ·intro w'
      go_simp
      with_reducible rfl
     rotate_left
     ·exact aP
     refine pure_ (i := 30) (N := some 125) (v := ?_) (a' := ?_) #[tt, tt, tt, tt, tt, tt, tt, tt, tt, tt, tt, tt, tt, tt, tt, tt, tt, tt, tt, tt, tt, tt, tt, tt, tt, tt, tt, tt, tt, tt, tt, ff, ff, ff, ff, ff, ff, ff, ff, ff, ff, ff, ff, ff, ff, ff, ff, ff] rfl rfl (any_of HT_.out (by kernel_rfl)) (fun _ _ _ h => h) (Or.inl ⟨by rfl, ?_⟩) ?_ ?_
     rotate_left
     ·intro w'
      go_simp
      with_reducible rfl
     rotate_left
     ·exact aP
     refine pure_ (i := 31) (N := some 126) (v := ?_) (a' := ?_) #[tt, tt, tt, tt, tt, tt, tt, tt, tt, tt, tt, tt, tt, tt, tt, tt, tt, tt, tt, tt, tt, tt, tt, tt, tt, tt, tt, tt, tt, tt, tt, tt, ff, ff, ff, ff, ff, ff, ff, ff, ff, ff, ff, ff, ff, ff, ff, ff] rfl rfl (any_of HT_.out (by kernel_rfl)) (fun _ _ _ h => h) (Or.inl ⟨by rfl, ?_⟩) ?_ ?_
     rotate_left
     ·intro w'
      go_simp
      with_reducible rfl
     rotate_left
     ·exact aP
     refine pure_ (i := 32) (N := some 127) (v := ?_) (a' := ?_) #[tt, tt, tt, tt, tt, tt, tt, tt, tt, tt, tt, tt, tt, tt, tt, tt, tt, tt, tt, tt, tt, tt, tt, tt, tt, tt, tt, tt, tt, tt, tt, tt, tt, ff, ff, ff, ff, ff, ff, ff, ff, ff, ff, ff, ff, ff, ff, ff] rfl rfl (any_of HT_.out (by kernel_rfl)) (fun _ _ _ h => h) (Or.inl ⟨by rfl, ?_⟩) ?_ ?_
     rotate_left
     ·intro w'
      go_simp
      with_reducible rfl
     rotate_left
     ·exact aP
     refine one_ (i := 33) (N := some 128) #[tt, tt, tt, tt, tt, tt, tt, tt, tt, tt, tt, tt, tt, tt, tt, tt, tt, tt, tt, tt, tt, tt, tt, tt, tt, tt, tt, tt, tt, tt, tt, tt, tt, tt, ff, ff, ff, ff, ff, ff, ff, ff, ff, ff, ff, ff, ff, ff] rfl rfl (one_of HT_.out (by kernel_rfl)) (by decide) (fun K hK => ?_)
     refine goes_ Try.func19 (by kernel_rfl) rfl #[.int .u8 0, .int .i64 (wrap64 ((t388.size : Int) - 18))] (by rfl) rfl rfl aO ?_
     with_reducible refine (withyref01_Repeat.calls kj16 0 (wrap64 ((t388.size : Int) - 18)) t397 _ A56.out).mono ?_
     rintro e w65 ⟨rfl, hb⟩
     refine ⟨_, rfl, ?_⟩
     replace BK379 := bb BK379 hb
     replace BK390 := bb BK390 hb
     replace HB := as_ (below_step bA hb)
     (try clear hb)
     (try clear hb2)
     (try clear hk)
     (try clear hi)
     have p61 : 0 ≤ ((ji58) : Int) := of_decide_eq_true aM
     have q61 : (ji58) < (t388.size : Int) := of_decide_eq_true aM
     have hx61 := bt_at t388 (ji58)
     replace p61 := eq_true p61
     replace q61 := eq_true q61
     refine hK.out _ _ ⟨(blk_cell BK379.out 0).trans rfl, (blk_cell BK379.out 1).trans rfl, (blk_cell BK379.out 2).trans rfl, (blk_cell BK379.out 3).trans rfl, (blk_cell BK379.out 4).trans rfl⟩ (fun hHeld => ?_)
     clear hK K
     refine norm_ (a' := ?_) ?_ ?_
     rotate_left
     ·show Act.put _ (some 128) _ = _
      simp only [Act.put, List.setIfInBounds_toArray, List.set_cons_zero, List.set_cons_succ, i64_w, i32_w]
      rfl
     refine pure_ (i := 34) (N := some 129) (v := ?_) (a' := ?_) #[tt, tt, tt, tt, tt, tt, tt, tt, tt, tt, tt, tt, tt, tt, tt, tt, tt, tt, tt, tt, tt, tt, tt, tt, tt, tt, tt, tt, tt, tt, tt, tt, tt, tt, tt, ff, ff, ff, ff, ff, ff, ff, ff, ff, ff, ff, ff, ff] rfl rfl (any_of HT_.out (by kernel_rfl)) (fun _ _ _ h => h) (Or.inl ⟨by rfl, ?_⟩) ?_ ?_
     rotate_left
     ·intro w'
      go_simp
      with_reducible rfl
     rotate_left
     ·exact aP
     refine pure_ (i := 35) (N := some 130) (v := ?_) (a' := ?_) #[tt, tt, tt, tt, tt, tt, tt, tt, tt, tt, tt, tt, tt, tt, tt, tt, tt, tt, tt, tt, tt, tt, tt, tt, tt, tt, tt, tt, tt, tt, tt, tt, tt, tt, tt, tt, ff, ff, ff, ff, ff, ff, ff, ff, ff, ff, ff, ff] rfl rfl (any_of HT_.out (by kernel_rfl)) (fun _ _ _ h => h) (Or.inl ⟨by rfl, ?_⟩) ?_ ?_
     rotate_left
     ·intro w'
      go_simp
      with_reducible rfl
     rotate_left
     ·exact aP
     refine pure_ (i := 36) (N := some 131) (v := ?_) (a' := ?_) #[tt, tt, tt, tt, tt, tt, tt, tt, tt, tt, tt, tt, tt, tt, tt, tt, tt, tt, tt, tt, tt, tt, tt, tt, tt, tt, tt, tt, tt, tt, tt, tt, tt, tt, tt, tt, tt, ff, ff, ff, ff, ff, ff, ff, ff, ff, ff, ff] rfl rfl (any_of HT_.out (by kernel_rfl)) (fun _ _ _ h => h) (Or.inl ⟨by rfl, ?_⟩) ?_ ?_
     rotate_left
     ·intro w'
      go_simp
      with_reducible rfl
     rotate_left
     ·exact aP
     refine pure_ (i := 37) (N := some 132) (v := ?_) (a' := ?_) #[tt, tt, tt, tt, tt, tt, tt, tt, tt, tt, tt, tt, tt, tt, tt, tt, tt, tt, tt, tt, tt, tt, tt, tt, tt, tt, tt, tt, tt, tt, tt, tt, tt, tt, tt, tt, tt, tt, ff, ff, ff, ff, ff, ff, ff, ff, ff, ff] rfl rfl (any_of HT_.out (by kernel_rfl)) (fun _ _ _ h => h) (Or.inl ⟨by rfl, ?_⟩) ?_ ?_
     rotate_left
     ·intro w'
      go_simp
      with_reducible rfl
     rotate_left
     ·exact aP
     refine pure_ (i := 38) (N := some 133) (v := ?_) (a' := ?_) #[tt, tt, tt, tt, tt, tt, tt, tt, tt, tt, tt, tt, tt, tt, tt, tt, tt, tt, tt, tt, tt, tt, tt, tt, tt, tt, tt, tt, tt, tt, tt, tt, tt, tt, tt, tt, tt, tt, tt, ff, ff, ff, ff, ff, ff, ff, ff, ff] rfl rfl (any_of HT_.out (by kernel_rfl)) (fun _ _ _ h => h) (Or.inl ⟨by rfl, ?_⟩) ?_ ?_
     rotate_left
     ·intro w'
      go_simp
      with_reducible rfl
     rotate_left
     ·exact aP
     refine pure_ (i := 39) (N := some 134) (v := ?_) (a' := ?_) #[tt, tt, tt, tt, tt, tt, tt, tt, tt, tt, tt, tt, tt, tt, tt, tt, tt, tt, tt, tt, tt, tt, tt, tt, tt, tt, tt, tt, tt, tt, tt, tt, tt, tt, tt, tt, tt, tt, tt, tt, ff, ff, ff, ff, ff, ff, ff, ff] rfl rfl (any_of HT_.out (by kernel_rfl)) (fun _ _ _ h => h) (Or.inl ⟨by rfl, ?_⟩) ?_ ?_
     rotate_left
     ·intro w'
      go_simp
      with_reducible rfl
     rotate_left
     ·exact aP
     refine pure_ (i := 40) (N := some 135) (v := ?_) (a' := ?_) #[tt, tt, tt, tt, tt, tt, tt, tt, tt, tt, tt, tt, tt, tt, tt, tt, tt, tt, tt, tt, tt, tt, tt, tt, tt, tt, tt, tt, tt, tt, tt, tt, tt, tt, tt, tt, tt, tt, tt, tt, tt, ff, ff, ff, ff, ff, ff, ff] rfl rfl (any_of HT_.out (by kernel_rfl)) (fun _ _ _ h => h) (Or.inl ⟨by rfl, ?_⟩) ?_ ?_
     rotate_left
     ·intro w'
      go_simp
      with_reducible rfl
     rotate_left
     ·exact aP
     refine take_ (i := 41) (N := some 136) (v := ?_) (a' := ?_) #[tt, tt, tt, tt, tt, tt, tt, tt, tt, tt, tt, tt, tt, tt, tt, tt, tt, tt, tt, tt, tt, tt, tt, tt, tt, tt, tt, tt, tt, tt, tt, tt, tt, tt, tt, tt, tt, tt, tt, tt, tt, tt, ff, ff, ff, ff, ff, ff] rfl rfl (take_ofW HT_.out HW_.out (by kernel_rfl)) (fun _ _ _ h => h) (Or.inl ⟨by rfl, ?_⟩) hHeld ?_ ?_
     rotate_left
     ·rintro w' ⟨s0, s1, s2, s3, s4⟩
      go_simp
      with_reducible rfl
     rotate_left
     ·exact aP
     refine pure_ (i := 42) (N := some 137) (v := ?_) (a' := ?_) #[tt, tt, tt, tt, tt, tt, tt, tt, tt, tt, tt, tt, tt, tt, tt, tt, tt, tt, tt, tt, tt, tt, tt, tt, tt, tt, tt, tt, tt, tt, tt, tt, tt, tt, tt, tt, tt, tt, tt, tt, tt, tt, tt, ff, ff, ff, ff, ff] rfl rfl (any_of HT_.out (by kernel_rfl)) (fun _ _ _ h => h) (Or.inl ⟨by rfl, ?_⟩) ?_ ?_
     rotate_left
     ·intro w'
      go_simp
      with_reducible rfl
     rotate_left
     ·exact aP
     refine pure_ (i := 43) (N := some 138) (v := ?_) (a' := ?_) #[tt, tt, tt, tt, tt, tt, tt, tt, tt, tt, tt, tt, tt, tt, tt, tt, tt, tt, tt, tt, tt, tt, tt, tt, tt, tt, tt, tt, tt, tt, tt, tt, tt, tt, tt, tt, tt, tt, tt, tt, tt, tt, tt, tt, ff, ff, ff, ff] rfl rfl (any_of HT_.out (by kernel_rfl)) (fun _ _ _ h => h) (Or.inl ⟨by rfl, ?_⟩) ?_ ?_
     rotate_left
     ·intro w'
      go_simp
      with_reducible rfl
     rotate_left
     ·exact aP
     refine pure_ (i := 44) (N := some 139) (v := ?_) (a' := ?_) #[tt, tt, tt, tt, tt, tt, tt, tt, tt, tt, tt, tt, tt, tt, tt, tt, tt, tt, tt, tt, tt, tt, tt, tt, tt, tt, tt, tt, tt, tt, tt, tt, tt, tt, tt, tt, tt, tt, tt, tt, tt, tt, tt, tt, tt, ff, ff, ff] rfl rfl (any_of HT_.out (by kernel_rfl)) (fun _ _ _ h => h) (Or.inl ⟨by rfl, ?_⟩) ?_ ?_
     rotate_left
     ·intro w'
      go_simp
      with_reducible rfl
     rotate_left
     ·exact aP
     refine one_ (i := 45) (N := some 140) #[tt, tt, tt, tt, tt, tt, tt, tt, tt, tt, tt, tt, tt, tt, tt, tt, tt, tt, tt, tt, tt, tt, tt, tt, tt, tt, tt, tt, tt, tt, tt, tt, tt, tt, tt, tt, tt, tt, tt, tt, tt, tt, tt, tt, tt, tt, ff, ff] rfl rfl (one_of HT_.out (by kernel_rfl)) (by decide) (fun K hK => ?_)
     refine goes_ Try.func18 (by kernel_rfl) rfl #[] (by rfl) rfl rfl aO ?_
     with_reducible refine (withylaw13_fixed.calls kj16  t398 _ A63.out).mono ?_
     rintro e w66 ⟨rfl, hb⟩
     refine ⟨_, rfl, ?_⟩
     replace BK379 := bb BK379 hb
     replace BK390 := bb BK390 hb
     replace HB := as_ (below_step bA hb)
     (try clear hb)
     (try clear hb2)
     (try clear hk)
     (try clear hi)
     refine hK.out _ _ ⟨(blk_cell BK379.out 0).trans rfl, (blk_cell BK379.out 1).trans rfl, (blk_cell BK379.out 2).trans rfl, (blk_cell BK379.out 3).trans rfl, (blk_cell BK379.out 4).trans rfl⟩ (fun hHeld => ?_)
     clear hK K
     refine norm_ (a' := ?_) ?_ ?_
     rotate_left
     ·show Act.put _ (some 140) _ = _
      simp only [Act.put, List.setIfInBounds_toArray, List.set_cons_zero, List.set_cons_succ, i64_w, i32_w]
      rfl
     refine pure_ (i := 46) (N := some 141) (v := ?_) (a' := ?_) #[tt, tt, tt, tt, tt, tt, tt, tt, tt, tt, tt, tt, tt, tt, tt, tt, tt, tt, tt, tt, tt, tt, tt, tt, tt, tt, tt, tt, tt, tt, tt, tt, tt, tt, tt, tt, tt, tt, tt, tt, tt, tt, tt, tt, tt, tt, tt, ff] rfl rfl (any_of HT_.out (by kernel_rfl)) (fun _ _ _ h => h) (Or.inl ⟨by rfl, ?_⟩) ?_ ?_
     rotate_left
     ·intro w'
      go_simp
      with_reducible rfl
     rotate_left
     ·exact aP
     refine pure_ (i := 47) (N := some 2) (v := ?_) (a' := ?_) #[tt, tt, tt, tt, tt, tt, tt, tt, tt, tt, tt, tt, tt, tt, tt, tt, tt, tt, tt, tt, tt, tt, tt, tt, tt, tt, tt, tt, tt, tt, tt, tt, tt, tt, tt, tt, tt, tt, tt, tt, tt, tt, tt, tt, tt, tt, tt, tt] rfl rfl (any_of HT_.out (by kernel_rfl)) (fun _ _ _ h => h) (Or.inl ⟨by rfl, ?_⟩) ?_ ?_
     rotate_left
     ·intro w'
      go_simp
      with_reducible rfl
     rotate_left
     ·exact aP
     refine done_ (done_of HT_.out (by kernel_rfl)) ?_
     try go_wp2
     go_ret
     exact ⟨by first | rfl | (simp [errW_none, errW_some] <;> rfl) | (simp only [← hjs48, ← hjs55, ← hji58]; first | rfl | (simp [errW_none, errW_some] <;> rfl)) | (simp [*, errW_none, errW_some] <;> rfl), by repeat (first | (with_reducible first | exact HB.out | apply below_alloc | apply pw_below_drewN | apply below_drew1 | refine below_set ?_ GE379.out | refine below_set ?_ GE390.out) | exact HB.out)⟩
end Go.Proofs.Ytnkndnpnjbcaoaa.P
