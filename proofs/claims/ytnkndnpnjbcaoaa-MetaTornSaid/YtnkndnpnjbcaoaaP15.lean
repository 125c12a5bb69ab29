/- What is proved here: for functions of the Go text, a Lean function each, and that the call comes to just what it answers. Conditions: as each contract names them. Written by wip/tools/myprint.py, a driver of the print of the kit. -/
import Derived.Test.YtnkndnpnjbcaoaaP0
import Derived.Test.YtnkndnpnjbcaoaaP1
import Derived.Test.YtnkndnpnjbcaoaaP3
import Derived.Test.YtnkndnpnjbcaoaaP6
import Derived.Test.YtnkndnpnjbcaoaaP10
import Derived.Test.YtnkndnpnjbcaoaaP12
import Derived.Test.YtnkndnpnjbcaoaaWAbbr
namespace Go.Proofs.Ytnkndnpnjbcaoaa.P
open Go.RowKit Go.Proofs.YtnkndnpnjbcaoaaW.PrintWords Go.Proofs.YtnkndnpnjbcaoaaW.PrintLast Go.Proofs.YtnkndnpnjbcaoaaW.PrintMore Go.Proofs.YtnkndnpnjbcaoaaW.Abbr
-- PACKED
attribute [local go_sem] max2_int min2_int max_two min_two max_three min_three max_four min_four Go.Proofs.YtnkndnpnjbcaoaaLaws.str_leq Go.Proofs.YtnkndnpnjbcaoaaLaws.str_gtr Go.Proofs.YtnkndnpnjbcaoaaLaws.str_geq Go.Proofs.YtnkndnpnjbcaoaaLaws.max2_str Go.Proofs.YtnkndnpnjbcaoaaLaws.min2_str   -- for this text's walks alone
set_option linter.unusedVariables false
set_option linter.unusedSimpArgs false

attribute [local go_sem high] eqA23
/-! ### withylaw13_MetaTorn: function 5 -/
mutual
def withylaw13_MetaTorn.j0 : Nat → Int → Int → ByteArray → Int → Bool → Int → Int → Int → Int → Int → Option (Bool)
 | 0, _, _, _, _, _, _, _, _, _, _ => none
 | k + 1, x1, x2, x7, x8, x25, x355000, x355001, x355002, x355003, x355004 => if x25 = true then (if x8 = 3 then ((meta_May.f x355000 x355001 x355002 x355003 x355004).bind fun t357 => (if t357 = true then (none) else ((withylaw13_fixed.f k).bind fun t358 => (some t358)))) else (none)) else (if (wrap64 ((x7.size : Int) + 1)) = 0 then (none) else ((withyref01_Repeat.f k 0 (x7.size : Int)).bind fun t359 => ((meta_Tear.f x7 t359 (Int.tmod (wrap64 (x1)) (wrap64 ((x7.size : Int) + 1)))).bind fun t360 => ((meta_Decode.f k t360).bind fun bt361 => (if ((bt361.2.2.2.2.2 == 0) != ((Int.tmod (wrap64 (x1)) (wrap64 ((x7.size : Int) + 1))) == (x7.size : Int))) = true then (withylaw13_MetaTorn.j1 k x2 x7 (Int.tmod (wrap64 (x1)) (wrap64 ((x7.size : Int) + 1))) true) else (if bt361.2.2.2.2.2 = 0 then (withylaw13_MetaTorn.j1 k x2 x7 (Int.tmod (wrap64 (x1)) (wrap64 ((x7.size : Int) + 1))) (!(bt361.1 == x355000) || (!(bt361.2.1 == x355001) || (!(bt361.2.2.1 == x355002) || (!(bt361.2.2.2.1 == x355003) || (!(bt361.2.2.2.2.1 == x355004))))))) else (withylaw13_MetaTorn.j1 k x2 x7 (Int.tmod (wrap64 (x1)) (wrap64 ((x7.size : Int) + 1))) false)))))))
def withylaw13_MetaTorn.j1 : Nat → Int → ByteArray → Int → Bool → Option (Bool)
 | 0, _, _, _, _ => none
 | k + 1, x2, x7, x9, x67 => if x67 = true then (none) else ((withyref01_Repeat.f k x2 (x7.size : Int)).bind fun t368 => ((meta_Tear.f x7 t368 x9).bind fun t369 => ((meta_Decode.f k t369).bind fun bt370 => (if x2 = 87 then ((withylaw13_fixed.f k).bind fun t377 => (some t377)) else (if ((bt370.2.2.2.2.2 == 0) == (x9 == (x7.size : Int))) = true then ((withylaw13_fixed.f k).bind fun t378 => (some t378)) else (none))))))
end
def withylaw13_MetaTorn.f (k : Nat) (a0_0 : Int) (a0_1 : Int) (a0_2 : Int) (a0_3 : Int) (a0_4 : Int) (a1 : Int) (a2 : Int) : Option (Bool) := (meta_Encode.f k a0_0 a0_1 a0_2 a0_3 a0_4).bind fun bt355 => (if bt355.2 = 0 then (withylaw13_MetaTorn.j0 k a1 a2 bt355.1 bt355.2 (decide ((bt355.1.size : Int) < 128)) a0_0 a0_1 a0_2 a0_3 a0_4) else (withylaw13_MetaTorn.j0 k a1 a2 bt355.1 bt355.2 true a0_0 a0_1 a0_2 a0_3 a0_4))
theorem withylaw13_MetaTorn.mono_l : ∀ k, (∀ y0 y1 y2 y3 y4 y5 y6 y7 y8 y9, LeO (withylaw13_MetaTorn.j0 k y0 y1 y2 y3 y4 y5 y6 y7 y8 y9) (withylaw13_MetaTorn.j0 (k + 1) y0 y1 y2 y3 y4 y5 y6 y7 y8 y9)) ∧ (∀ y0 y1 y2 y3, LeO (withylaw13_MetaTorn.j1 k y0 y1 y2 y3) (withylaw13_MetaTorn.j1 (k + 1) y0 y1 y2 y3))
 | 0 => ⟨fun _ _ _ _ _ _ _ _ _ _ r h => by simp [withylaw13_MetaTorn.j0] at h, fun _ _ _ _ r h => by simp [withylaw13_MetaTorn.j1] at h⟩
 | k + 1 => by
  obtain ⟨ih0, ih1⟩ := withylaw13_MetaTorn.mono_l k
  refine ⟨?_, ?_⟩
  ·intro y0 y1 y2 y3 y4 y5 y6 y7 y8 y9
   unfold withylaw13_MetaTorn.j0
   repeat' first
   | (with_reducible exact ih0 _ _ _ _ _ _ _ _ _ _)
   | (with_reducible exact ih1 _ _ _ _)
   | (with_reducible exact meta_Decode.mono _ _)
   | (with_reducible exact meta_Encode.mono _ _ _ _ _ _)
   | (with_reducible exact withylaw13_fixed.mono _)
   | (with_reducible exact withyref01_Repeat.mono _ _ _)
   | (with_reducible exact LeO.refl _)
   | (with_reducible exact LeO.none _)
   | (with_reducible refine LeO.ite ?_ ?_)
   | (with_reducible refine LeO.bind ?_ (fun _ => ?_))
   | exact ih0 _ _ _ _ _ _ _ _ _ _
   | exact ih1 _ _ _ _
   | exact meta_Decode.mono _ _
   | exact meta_Encode.mono _ _ _ _ _ _
   | exact withylaw13_fixed.mono _
   | exact withyref01_Repeat.mono _ _ _
   | exact LeO.none _
   | refine LeO.ite ?_ ?_
   | refine LeO.bind ?_ (fun _ => ?_)
  ·intro y0 y1 y2 y3
   unfold withylaw13_MetaTorn.j1
   repeat' first
   | (with_reducible exact ih0 _ _ _ _ _ _ _ _ _ _)
   | (with_reducible exact ih1 _ _ _ _)
   | (with_reducible exact meta_Decode.mono _ _)
   | (with_reducible exact meta_Encode.mono _ _ _ _ _ _)
   | (with_reducible exact withylaw13_fixed.mono _)
   | (with_reducible exact withyref01_Repeat.mono _ _ _)
   | (with_reducible exact LeO.refl _)
   | (with_reducible exact LeO.none _)
   | (with_reducible refine LeO.ite ?_ ?_)
   | (with_reducible refine LeO.bind ?_ (fun _ => ?_))
   | exact ih0 _ _ _ _ _ _ _ _ _ _
   | exact ih1 _ _ _ _
   | exact meta_Decode.mono _ _
   | exact meta_Encode.mono _ _ _ _ _ _
   | exact withylaw13_fixed.mono _
   | exact withyref01_Repeat.mono _ _ _
   | exact LeO.none _
   | refine LeO.ite ?_ ?_
   | refine LeO.bind ?_ (fun _ => ?_)
theorem withylaw13_MetaTorn.mono : ∀ a0 a1 a2 a3 a4 a5 a6 k, LeO (withylaw13_MetaTorn.f k a0 a1 a2 a3 a4 a5 a6) (withylaw13_MetaTorn.f (k + 1) a0 a1 a2 a3 a4 a5 a6) := by
 intro a0 a1 a2 a3 a4 a5 a6 k
 obtain ⟨ih0, ih1⟩ := withylaw13_MetaTorn.mono_l k
 unfold withylaw13_MetaTorn.f
 repeat' first
   | (with_reducible exact ih0 _ _ _ _ _ _ _ _ _ _)
   | (with_reducible exact ih1 _ _ _ _)
   | (with_reducible exact meta_Decode.mono _ _)
   | (with_reducible exact meta_Encode.mono _ _ _ _ _ _)
   | (with_reducible exact withylaw13_fixed.mono _)
   | (with_reducible exact withyref01_Repeat.mono _ _ _)
   | (with_reducible exact LeO.refl _)
   | (with_reducible exact LeO.none _)
   | (with_reducible refine LeO.ite ?_ ?_)
   | (with_reducible refine LeO.bind ?_ (fun _ => ?_))
   | exact ih0 _ _ _ _ _ _ _ _ _ _
   | exact ih1 _ _ _ _
   | exact meta_Decode.mono _ _
   | exact meta_Encode.mono _ _ _ _ _ _
   | exact withylaw13_fixed.mono _
   | exact withyref01_Repeat.mono _ _ _
   | exact LeO.none _
   | refine LeO.ite ?_ ?_
   | refine LeO.bind ?_ (fun _ => ?_)
set_option maxHeartbeats 8000000 in
set_option maxRecDepth 100000 in
theorem withylaw13_MetaTorn.calls (k : Nat) (a0_0 : Int) (a0_1 : Int) (a0_2 : Int) (a0_3 : Int) (a0_4 : Int) (a1 : Int) (a2 : Int) (r : Bool) (w : World) (h : withylaw13_MetaTorn.f k a0_0 a0_1 a0_2 a0_3 a0_4 a1 a2 = some r) :
  Calls Try.prog 5 #[.agg #[.int .i64 a0_0, .int .i64 a0_1, .int .i64 a0_2, .int .i64 a0_3, .int .i64 a0_4], .int .u16 a1, .int .u8 a2] w fun e w' => e = .returned (.bool r) ∧ Below w.heap.size w w' := by
 have hu23 := Try.underlying23
 have HB := as_ (Below.refl w.heap.size w)
 have H : ((meta_Encode.f k a0_0 a0_1 a0_2 a0_3 a0_4).bind fun bt355 => (if bt355.2 = 0 then (withylaw13_MetaTorn.j0 k a1 a2 bt355.1 bt355.2 (decide ((bt355.1.size : Int) < 128)) a0_0 a0_1 a0_2 a0_3 a0_4) else (withylaw13_MetaTorn.j0 k a1 a2 bt355.1 bt355.2 true a0_0 a0_1 a0_2 a0_3 a0_4))) = some r := h
 clear h
 replace H := bM H
 obtain ⟨⟨t355, t356⟩, A40, H⟩ := H
 replace H : (if t356 = 0 then (withylaw13_MetaTorn.j0 k a1 a2 t355 t356 (decide ((t355.size : Int) < 128)) a0_0 a0_1 a0_2 a0_3 a0_4) else (withylaw13_MetaTorn.j0 k a1 a2 t355 t356 true a0_0 a0_1 a0_2 a0_3 a0_4)) = some r := H
 have A4 := Aside0.mk A40
 clear A40
 have HC5 := Aside0.mk H
 clear H
 go_enter Try.func5, Try.ntmps5
 go_upto_region 2 with (first | ((with_reducible refine gate_dst (N := 3) rfl ?_); (try (refine gate_guard (by rfl) ?_; dsimp only)); refine box_event (by rfl) (N := 3) (by rfl) (cs := #[.int .i64 a0_0, .int .i64 a0_1, .int .i64 a0_2, .int .i64 a0_3, .int .i64 a0_4]) (t := 23) gS ?_; intro gb354 hg w6 hbox hb; have BK354 := as_ (hbox); have GW354 := gw hg bA; have GE354 := gw hg bA; replace HB := as_ (below_step bA hb); clear hb hbox hg; obtain ⟨hcz7_0, hcz7_1, hcz7_2, hcz7_3, hcz7_4⟩ := zc5 BK354; obtain ⟨hfz7_0, hfz7_1, hfz7_2, hfz7_3, hfz7_4⟩ := zf5 BK354) | ((with_reducible refine gate_callee (f := 9) rfl ?_); refine goesL_ (some 16) rfl rfl Try.func9 (by kernel_rfl) rfl #[.agg #[.int .i64 a0_0, .int .i64 a0_1, .int .i64 a0_2, .int .i64 a0_3, .int .i64 a0_4]] rfl aO ?_; (with_reducible refine (meta_Encode.calls k a0_0 a0_1 a0_2 a0_3 a0_4 t355 t356 _ A4.out).mono ?_); rintro e w8 ⟨rfl, hb⟩; refine ⟨_, rfl, ?_⟩; replace BK354 := bb BK354 hb; replace HB := as_ (below_step bA hb); (try clear hb); (try clear hb2); (try clear hk); (try clear hi)))
 (try simp only [Act.put, List.setIfInBounds_toArray, List.set_cons_zero, List.set_cons_succ])
 go_cut [25] (fun v25 wc => ∃ (kq : Nat) (x25_4 : Bool), v25 = .bool x25_4 ∧ Aside0 (withylaw13_MetaTorn.j0 kq a1 a2 t355 t356 x25_4 a0_0 a0_1 a0_2 a0_3 a0_4 = some r) ∧ Aside0 (kq ≤ k) ∧ Aside0 (wc.heap[gb354]? = some (.cells #[.int .i64 a0_0, .int .i64 a0_1, .int .i64 a0_2, .int .i64 a0_3, .int .i64 a0_4] 23 (0, 0))) ∧ Aside0 (Below w.heap.size w wc))
 case first =>
  have H := HC5.out
  clear HC5
  by_cases c9 : t356 = 0
  rotate_left
  ·rw [if_neg c9] at H
   have c9b0 : (t356 == 0) = false := beq_eq_false_iff_ne.mpr c9
   have c9b1 : (t356 != 0) = true := bne_iff_ne.mpr c9
   (first | rw [c9b0] | (simp only [i64_w, i32_w]; rw [c9b0]) | rw [c9b1] | skip)
   have H' := Aside0.mk H
   clear H
   go_wp2
   go_meet
   case rel => exact ⟨_, (true), (by first | rfl | (simp; done) | (simp [*]; done)), H', ⟨by first | omega | exact Nat.le_refl _⟩, ⟨by refine bx ?_; exact BK354.out⟩, ⟨by repeat (first | (with_reducible first | exact HB.out | apply below_alloc | apply pw_below_drewN | apply below_drew1 | refine below_set ?_ GE354.out) | exact HB.out)⟩⟩
  rw [if_pos c9] at H
  have c9b0 : (t356 == 0) = true := beq_iff_eq.mpr c9
  have c9b1 : (t356 != 0) = false := bne_eq_false_iff_eq.mpr c9
  clear c9
  (first | rw [c9b0] | (simp only [i64_w, i32_w]; rw [c9b0]) | rw [c9b1] | skip)
  have H' := Aside0.mk H
  clear H
  go_wp2
  go_meet
  case rel => exact ⟨_, (decide ((t355.size : Int) < 128)), (by first | rfl | (simp; done) | (simp [*]; done)), H', ⟨by first | omega | exact Nat.le_refl _⟩, ⟨by refine bx ?_; exact BK354.out⟩, ⟨by repeat (first | (with_reducible first | exact HB.out | apply below_alloc | apply pw_below_drewN | apply below_drew1 | refine below_set ?_ GE354.out) | exact HB.out)⟩⟩
 case rest =>
  clear HC5
  try clear p2
  try clear c5
  try clear c9
  try clear c9b0
  try clear c9b1
  try clear hcz7_0
  try clear hcz7_1
  try clear hcz7_2
  try clear hcz7_3
  try clear hcz7_4
  try clear hfz7_0
  try clear hfz7_1
  try clear hfz7_2
  try clear hfz7_3
  try clear hfz7_4
  obtain ⟨kq, x25_4, rfl, HA, HJ4, BK354, HB⟩ := hcut
  cases kq with
  | zero => exact absurd HA.out (by simp [withylaw13_MetaTorn.j0])
  | succ kj4 =>
   have H := HA.out
   clear HA
   simp only [withylaw13_MetaTorn.j0] at H
   by_cases c10 : x25_4 = true
   ·subst c10
    have H1 : (if t356 = 3 then ((meta_May.f a0_0 a0_1 a0_2 a0_3 a0_4).bind fun t357 => (if t357 = true then (none) else ((withylaw13_fixed.f kj4).bind fun t358 => (some t358)))) else (none)) = some r := by rw [if_pos rfl] at H; exact H
    clear H
    have H := H1
    clear H1
    by_cases c11 : t356 = 3
    rotate_left
    ·rw [if_neg c11] at H
     exact absurd H (by simp)
    rw [if_pos c11] at H
    have c11b0 : (t356 == 3) = true := beq_iff_eq.mpr c11
    have c11b1 : (t356 != 3) = false := bne_eq_false_iff_eq.mpr c11
    clear c11
    replace H := bM H
    obtain ⟨t357, A120, H⟩ := H
    replace H : (if t357 = true then (none) else ((withylaw13_fixed.f kj4).bind fun t358 => (some t358))) = some r := H
    have A12 := Aside0.mk A120
    clear A120
    by_cases c13 : t357 = true
    ·subst c13
     have H1 : (none) = some r := by rw [if_pos rfl] at H; exact H
     clear H
     have H := H1
     clear H1
     exact absurd H (by simp)
    replace c13 := Bool.eq_false_iff.mpr c13
    subst c13
    have H1 : ((withylaw13_fixed.f kj4).bind fun t358 => (some t358)) = some r := by rw [if_neg (show ¬ (false = true) by decide)] at H; exact H
    clear H
    have H := H1
    clear H1
    replace H := bM H
    obtain ⟨t358, A140, H⟩ := H
    replace H : (some t358) = some r := H
    have A14 := Aside0.mk A140
    clear A140
    obtain rfl := Option.some.inj H
    obtain ⟨hcz15_0, hcz15_1, hcz15_2, hcz15_3, hcz15_4⟩ := zc5 BK354
    obtain ⟨hfz15_0, hfz15_1, hfz15_2, hfz15_3, hfz15_4⟩ := zf5 BK354
    go_wp2_with (first | (go_at_call 14; (with_reducible refine (meta_May.calls a0_0 a0_1 a0_2 a0_3 a0_4 false _ A12.out).mono ?_); rintro e w16 ⟨rfl, hb⟩; replace BK354 := bb BK354 hb; replace HB := as_ (below_step bA hb); (try clear hb); (try clear hb2); (try clear hk); (try clear hi)) | (go_at_call 18; (with_reducible refine (withylaw13_fixed.calls kj4  t358 _ A14.out).mono ?_); rintro e w17 ⟨rfl, hb⟩; replace BK354 := bb BK354 hb; replace HB := as_ (below_step bA hb); (try clear hb); (try clear hb2); (try clear hk); (try clear hi)))
    go_ret
    exact ⟨eW, by repeat (first | (with_reducible first | exact HB.out | apply below_alloc | apply pw_below_drewN | apply below_drew1 | refine below_set ?_ GE354.out) | exact HB.out)⟩
   replace c10 := Bool.eq_false_iff.mpr c10
   subst c10
   have H1 : (if (wrap64 ((t355.size : Int) + 1)) = 0 then (none) else ((withyref01_Repeat.f kj4 0 (t355.size : Int)).bind fun t359 => ((meta_Tear.f t355 t359 (Int.tmod (wrap64 (a1)) (wrap64 ((t355.size : Int) + 1)))).bind fun t360 => ((meta_Decode.f kj4 t360).bind fun bt361 => (if ((bt361.2.2.2.2.2 == 0) != ((Int.tmod (wrap64 (a1)) (wrap64 ((t355.size : Int) + 1))) == (t355.size : Int))) = true then (withylaw13_MetaTorn.j1 kj4 a2 t355 (Int.tmod (wrap64 (a1)) (wrap64 ((t355.size : Int) + 1))) true) else (if bt361.2.2.2.2.2 = 0 then (withylaw13_MetaTorn.j1 kj4 a2 t355 (Int.tmod (wrap64 (a1)) (wrap64 ((t355.size : Int) + 1))) (!(bt361.1 == a0_0) || (!(bt361.2.1 == a0_1) || (!(bt361.2.2.1 == a0_2) || (!(bt361.2.2.2.1 == a0_3) || (!(bt361.2.2.2.2.1 == a0_4))))))) else (withylaw13_MetaTorn.j1 kj4 a2 t355 (Int.tmod (wrap64 (a1)) (wrap64 ((t355.size : Int) + 1))) false))))))) = some r := by rw [if_neg (show ¬ (false = true) by decide)] at H; exact H
   clear H
   have H := H1
   clear H1
   by_cases c18 : (wrap64 ((t355.size : Int) + 1)) = 0
   ·rw [if_pos c18] at H
    exact absurd H (by simp)
   rw [if_neg c18] at H
   have c18b0 : ((wrap64 ((t355.size : Int) + 1)) == 0) = false := beq_eq_false_iff_ne.mpr c18
   have c18b1 : ((wrap64 ((t355.size : Int) + 1)) != 0) = true := bne_iff_ne.mpr c18
   replace H := bM H
   obtain ⟨t359, A190, H⟩ := H
   replace H : ((meta_Tear.f t355 t359 (Int.tmod (wrap64 (a1)) (wrap64 ((t355.size : Int) + 1)))).bind fun t360 => ((meta_Decode.f kj4 t360).bind fun bt361 => (if ((bt361.2.2.2.2.2 == 0) != ((Int.tmod (wrap64 (a1)) (wrap64 ((t355.size : Int) + 1))) == (t355.size : Int))) = true then (withylaw13_MetaTorn.j1 kj4 a2 t355 (Int.tmod (wrap64 (a1)) (wrap64 ((t355.size : Int) + 1))) true) else (if bt361.2.2.2.2.2 = 0 then (withylaw13_MetaTorn.j1 kj4 a2 t355 (Int.tmod (wrap64 (a1)) (wrap64 ((t355.size : Int) + 1))) (!(bt361.1 == a0_0) || (!(bt361.2.1 == a0_1) || (!(bt361.2.2.1 == a0_2) || (!(bt361.2.2.2.1 == a0_3) || (!(bt361.2.2.2.2.1 == a0_4))))))) else (withylaw13_MetaTorn.j1 kj4 a2 t355 (Int.tmod (wrap64 (a1)) (wrap64 ((t355.size : Int) + 1))) false))))) = some r := H
   have A19 := Aside0.mk A190
   clear A190
   replace H := bM H
   obtain ⟨t360, A200, H⟩ := H
   replace H : ((meta_Decode.f kj4 t360).bind fun bt361 => (if ((bt361.2.2.2.2.2 == 0) != ((Int.tmod (wrap64 (a1)) (wrap64 ((t355.size : Int) + 1))) == (t355.size : Int))) = true then (withylaw13_MetaTorn.j1 kj4 a2 t355 (Int.tmod (wrap64 (a1)) (wrap64 ((t355.size : Int) + 1))) true) else (if bt361.2.2.2.2.2 = 0 then (withylaw13_MetaTorn.j1 kj4 a2 t355 (Int.tmod (wrap64 (a1)) (wrap64 ((t355.size : Int) + 1))) (!(bt361.1 == a0_0) || (!(bt361.2.1 == a0_1) || (!(bt361.2.2.1 == a0_2) || (!(bt361.2.2.2.1 == a0_3) || (!(bt361.2.2.2.2.1 == a0_4))))))) else (withylaw13_MetaTorn.j1 kj4 a2 t355 (Int.tmod (wrap64 (a1)) (wrap64 ((t355.size : Int) + 1))) false)))) = some r := H
   have A20 := Aside0.mk A200
   clear A200
   replace H := bM H
   obtain ⟨⟨t361, t362, t363, t364, t365, t366⟩, A210, H⟩ := H
   replace H : (if ((t366 == 0) != ((Int.tmod (wrap64 (a1)) (wrap64 ((t355.size : Int) + 1))) == (t355.size : Int))) = true then (withylaw13_MetaTorn.j1 kj4 a2 t355 (Int.tmod (wrap64 (a1)) (wrap64 ((t355.size : Int) + 1))) true) else (if t366 = 0 then (withylaw13_MetaTorn.j1 kj4 a2 t355 (Int.tmod (wrap64 (a1)) (wrap64 ((t355.size : Int) + 1))) (!(t361 == a0_0) || (!(t362 == a0_1) || (!(t363 == a0_2) || (!(t364 == a0_3) || (!(t365 == a0_4))))))) else (withylaw13_MetaTorn.j1 kj4 a2 t355 (Int.tmod (wrap64 (a1)) (wrap64 ((t355.size : Int) + 1))) false))) = some r := H
   have A21 := Aside0.mk A210
   clear A210
   have HC22 := Aside0.mk H
   clear H
   go_upto_region 6 with (first | ((with_reducible refine gate_callee (f := 19) rfl ?_); refine goesL_ (some 46) rfl rfl Try.func19 (by kernel_rfl) rfl #[.int .u8 0, .int .i64 (t355.size : Int)] rfl aO ?_; (with_reducible refine (withyref01_Repeat.calls kj4 0 (t355.size : Int) t359 _ A19.out).mono ?_); rintro e w23 ⟨rfl, hb⟩; refine ⟨_, rfl, ?_⟩; replace BK354 := bb BK354 hb; replace HB := as_ (below_step bA hb); (try clear hb); (try clear hb2); (try clear hk); (try clear hi)) | ((with_reducible refine gate_callee (f := 16) rfl ?_); refine goesL_ (some 48) rfl rfl Try.func16 (by kernel_rfl) rfl #[.string t355, .string t359, .int .i64 (Int.tmod (wrap64 (a1)) (wrap64 ((t355.size : Int) + 1)))] rfl aO ?_; (first | (with_reducible refine (meta_Tear.calls t355 t359 (Int.tmod (wrap64 (a1)) (wrap64 ((t355.size : Int) + 1))) t360 _ A20.out).mono ?_) | (with_reducible refine (meta_Tear.calls t355 t359 (Int.tmod (a1) ((t355.size : Int) + 1)) t360 _ (by have e_ := A20.out; rwa [(by unfold wrap64; omega : wrap64 ((t355.size : Int) + 1) = ((t355.size : Int) + 1)), (by unfold wrap64; omega : wrap64 (a1) = (a1))] at e_)).mono ?_)); rintro e w24 ⟨rfl, hb⟩; refine ⟨_, rfl, ?_⟩; replace BK354 := bb BK354 hb; replace HB := as_ (below_step bA hb); (try clear hb); (try clear hb2); (try clear hk); (try clear hi)) | ((with_reducible refine gate_callee (f := 12) rfl ?_); refine goesL_ (some 49) rfl rfl Try.func12 (by kernel_rfl) rfl #[.string t360] rfl aO ?_; (with_reducible refine (meta_Decode.calls kj4 t360 t361 t362 t363 t364 t365 t366 _ A21.out).mono ?_); rintro e w25 ⟨rfl, hb⟩; refine ⟨_, rfl, ?_⟩; replace BK354 := bb BK354 hb; replace HB := as_ (below_step bA hb); (try clear hb); (try clear hb2); (try clear hk); (try clear hi)) | ((with_reducible refine gate_dst (N := 10) rfl ?_); (try (refine gate_guard (by rfl) ?_; dsimp only)); refine box_event (by rfl) (N := 10) (by rfl) (cs := #[.int .i64 0, .int .i64 0, .int .i64 0, .int .i64 0, .int .i64 0]) (t := 23) gS ?_; intro gb367 hg w26 hbox hb; have BK367 := as_ (hbox); have GW367 := gw hg bA; have GE367 := gw hg bA; have NB354_367 := nl BK354 hg; have NB367_354 := ng BK354 hg; replace BK354 := bb BK354 hb; replace HB := as_ (below_step bA hb); clear hb hbox hg; have hnb27 := NB367_354.out; have hnc27 := NB354_367.out; obtain ⟨hcz28_0, hcz28_1, hcz28_2, hcz28_3, hcz28_4⟩ := zc5 BK367; obtain ⟨hfz28_0, hfz28_1, hfz28_2, hfz28_3, hfz28_4⟩ := zf5 BK367))
   (try simp only [Act.put, List.setIfInBounds_toArray, List.set_cons_zero, List.set_cons_succ])
   go_cut [67] (fun v67 wc => ∃ (kq : Nat) (x67_21 : Bool), v67 = .bool x67_21 ∧ Aside0 (withylaw13_MetaTorn.j1 kq a2 t355 (Int.tmod (wrap64 (a1)) (wrap64 ((t355.size : Int) + 1))) x67_21 = some r) ∧ Aside0 (kq ≤ kj4) ∧ Aside0 (wc.heap[gb354]? = some (.cells #[.int .i64 a0_0, .int .i64 a0_1, .int .i64 a0_2, .int .i64 a0_3, .int .i64 a0_4] 23 (0, 0))) ∧ Aside0 (wc.heap[gb367]? = some (.cells #[.int .i64 t361, .int .i64 t362, .int .i64 t363, .int .i64 t364, .int .i64 t365] 23 (0, 0))) ∧ Aside0 (Below w.heap.size w wc))
   case first =>
    have H := HC22.out
    clear HC22
    by_cases c29 : ((t366 == 0) != ((Int.tmod (wrap64 (a1)) (wrap64 ((t355.size : Int) + 1))) == (t355.size : Int))) = true
    ·rw [if_pos c29] at H
     have c29b0 : ((t366 == 0) != ((Int.tmod (wrap64 (a1)) (wrap64 ((t355.size : Int) + 1))) == (t355.size : Int))) = true := c29
     (try (have c29b1 : decide ((t366 == 0) = ((Int.tmod (wrap64 (a1)) (wrap64 ((t355.size : Int) + 1))) == (t355.size : Int))) = false := by simpa using c29))
     (try (have c29b2 : ((t366 == 0) == ((Int.tmod (wrap64 (a1)) (wrap64 ((t355.size : Int) + 1))) == (t355.size : Int))) = false := by simpa using c29))
     (try (have c29b3 : ¬ ((t366 == 0) = ((Int.tmod (wrap64 (a1)) (wrap64 ((t355.size : Int) + 1))) == (t355.size : Int))) := by simpa using c29))
     clear c29
     (first | rw [c29b0] | (simp only [i64_w, i32_w]; rw [c29b0]) | rw [c29b1] | skip)
     have H' := Aside0.mk H
     clear H
     go_wp2
     go_meet
     case rel => exact ⟨_, (true), (by first | rfl | (simp; done) | (simp [*]; done)), H', ⟨by have := HJ4.out; first | omega | exact Nat.le_refl _⟩, ⟨by refine bx ?_; refine blk_far ?_ NB354_367.out _; refine bx ?_; refine blk_far ?_ NB354_367.out _; refine bx ?_; refine blk_far ?_ NB354_367.out _; refine bx ?_; refine blk_far ?_ NB354_367.out _; refine bx ?_; refine blk_far ?_ NB354_367.out _; refine bx ?_; exact BK354.out⟩, ⟨by refine bx ?_; refine blk_put (cs := #[.int .i64 t361, .int .i64 t362, .int .i64 t363, .int .i64 t364, .int .i64 0]) ?_ 4 _ rfl; refine bx ?_; refine blk_put (cs := #[.int .i64 t361, .int .i64 t362, .int .i64 t363, .int .i64 0, .int .i64 0]) ?_ 3 _ rfl; refine bx ?_; refine blk_put (cs := #[.int .i64 t361, .int .i64 t362, .int .i64 0, .int .i64 0, .int .i64 0]) ?_ 2 _ rfl; refine bx ?_; refine blk_put (cs := #[.int .i64 t361, .int .i64 0, .int .i64 0, .int .i64 0, .int .i64 0]) ?_ 1 _ rfl; refine bx ?_; refine blk_put (cs := #[.int .i64 0, .int .i64 0, .int .i64 0, .int .i64 0, .int .i64 0]) ?_ 0 _ rfl; refine bx ?_; exact BK367.out⟩, ⟨by repeat (first | (with_reducible first | exact HB.out | apply below_alloc | apply pw_below_drewN | apply below_drew1 | refine below_set ?_ GE354.out | refine below_set ?_ GE367.out) | exact HB.out)⟩⟩
    rw [if_neg c29] at H
    have c29b0 : ((t366 == 0) != ((Int.tmod (wrap64 (a1)) (wrap64 ((t355.size : Int) + 1))) == (t355.size : Int))) = false := by simpa using c29
    (try (have c29b1 : decide ((t366 == 0) = ((Int.tmod (wrap64 (a1)) (wrap64 ((t355.size : Int) + 1))) == (t355.size : Int))) = true := by simpa using c29))
    (try (have c29b2 : ((t366 == 0) == ((Int.tmod (wrap64 (a1)) (wrap64 ((t355.size : Int) + 1))) == (t355.size : Int))) = true := by simpa using c29))
    clear c29
    (first | rw [c29b0] | (simp only [i64_w, i32_w]; rw [c29b0]) | rw [c29b1] | skip)
    by_cases c30 : t366 = 0
    rotate_left
    ·rw [if_neg c30] at H
     have c30b0 : (t366 == 0) = false := beq_eq_false_iff_ne.mpr c30
     (try (have c29u : decide ((Int.tmod (wrap64 (a1)) (wrap64 ((t355.size : Int) + 1))) = (t355.size : Int)) = true := by have h_ := c29b0; rw [c30b0] at h_; simpa using h_))
     (try (have c29t : ((Int.tmod (wrap64 (a1)) (wrap64 ((t355.size : Int) + 1))) == (t355.size : Int)) = true := by have h_ := c29b0; rw [c30b0] at h_; simpa using h_))
     (try (have c29u : decide ((Int.tmod (wrap64 (a1)) (wrap64 ((t355.size : Int) + 1))) = (t355.size : Int)) = false := by have h_ := c29b0; rw [c30b0] at h_; simpa using h_))
     (try (have c29t : ((Int.tmod (wrap64 (a1)) (wrap64 ((t355.size : Int) + 1))) == (t355.size : Int)) = false := by have h_ := c29b0; rw [c30b0] at h_; simpa using h_))
     (try (have c29u : decide ((Int.tmod (wrap64 (a1)) (wrap64 ((t355.size : Int) + 1))) = (t355.size : Int)) = true := by have h_ := c29b0; rw [c30b0] at h_; simpa using h_))
     (try (have c29t : ((Int.tmod (wrap64 (a1)) (wrap64 ((t355.size : Int) + 1))) == (t355.size : Int)) = true := by have h_ := c29b0; rw [c30b0] at h_; simpa using h_))
     (try (have c29u : decide ((Int.tmod (wrap64 (a1)) (wrap64 ((t355.size : Int) + 1))) = (t355.size : Int)) = false := by have h_ := c29b0; rw [c30b0] at h_; simpa using h_))
     (try (have c29t : ((Int.tmod (wrap64 (a1)) (wrap64 ((t355.size : Int) + 1))) == (t355.size : Int)) = false := by have h_ := c29b0; rw [c30b0] at h_; simpa using h_))
     have c30b1 : (t366 != 0) = true := bne_iff_ne.mpr c30
     have H' := Aside0.mk H
     clear H
     go_wp2
     go_meet
     case rel => exact ⟨_, (false), (by first | rfl | (simp; done) | (simp [*]; done)), H', ⟨by have := HJ4.out; first | omega | exact Nat.le_refl _⟩, ⟨by refine bx ?_; refine blk_far ?_ NB354_367.out _; refine bx ?_; refine blk_far ?_ NB354_367.out _; refine bx ?_; refine blk_far ?_ NB354_367.out _; refine bx ?_; refine blk_far ?_ NB354_367.out _; refine bx ?_; refine blk_far ?_ NB354_367.out _; refine bx ?_; exact BK354.out⟩, ⟨by refine bx ?_; refine blk_put (cs := #[.int .i64 t361, .int .i64 t362, .int .i64 t363, .int .i64 t364, .int .i64 0]) ?_ 4 _ rfl; refine bx ?_; refine blk_put (cs := #[.int .i64 t361, .int .i64 t362, .int .i64 t363, .int .i64 0, .int .i64 0]) ?_ 3 _ rfl; refine bx ?_; refine blk_put (cs := #[.int .i64 t361, .int .i64 t362, .int .i64 0, .int .i64 0, .int .i64 0]) ?_ 2 _ rfl; refine bx ?_; refine blk_put (cs := #[.int .i64 t361, .int .i64 0, .int .i64 0, .int .i64 0, .int .i64 0]) ?_ 1 _ rfl; refine bx ?_; refine blk_put (cs := #[.int .i64 0, .int .i64 0, .int .i64 0, .int .i64 0, .int .i64 0]) ?_ 0 _ rfl; refine bx ?_; exact BK367.out⟩, ⟨by repeat (first | (with_reducible first | exact HB.out | apply below_alloc | apply pw_below_drewN | apply below_drew1 | refine below_set ?_ GE354.out | refine below_set ?_ GE367.out) | exact HB.out)⟩⟩
    rw [if_pos c30] at H
    have c30b0 : (t366 == 0) = true := beq_iff_eq.mpr c30
    (try (have c29u : decide ((Int.tmod (wrap64 (a1)) (wrap64 ((t355.size : Int) + 1))) = (t355.size : Int)) = true := by have h_ := c29b0; rw [c30b0] at h_; simpa using h_))
    (try (have c29t : ((Int.tmod (wrap64 (a1)) (wrap64 ((t355.size : Int) + 1))) == (t355.size : Int)) = true := by have h_ := c29b0; rw [c30b0] at h_; simpa using h_))
    (try (have c29u : decide ((Int.tmod (wrap64 (a1)) (wrap64 ((t355.size : Int) + 1))) = (t355.size : Int)) = false := by have h_ := c29b0; rw [c30b0] at h_; simpa using h_))
    (try (have c29t : ((Int.tmod (wrap64 (a1)) (wrap64 ((t355.size : Int) + 1))) == (t355.size : Int)) = false := by have h_ := c29b0; rw [c30b0] at h_; simpa using h_))
    (try (have c29u : decide ((Int.tmod (wrap64 (a1)) (wrap64 ((t355.size : Int) + 1))) = (t355.size : Int)) = true := by have h_ := c29b0; rw [c30b0] at h_; simpa using h_))
    (try (have c29t : ((Int.tmod (wrap64 (a1)) (wrap64 ((t355.size : Int) + 1))) == (t355.size : Int)) = true := by have h_ := c29b0; rw [c30b0] at h_; simpa using h_))
    (try (have c29u : decide ((Int.tmod (wrap64 (a1)) (wrap64 ((t355.size : Int) + 1))) = (t355.size : Int)) = false := by have h_ := c29b0; rw [c30b0] at h_; simpa using h_))
    (try (have c29t : ((Int.tmod (wrap64 (a1)) (wrap64 ((t355.size : Int) + 1))) == (t355.size : Int)) = false := by have h_ := c29b0; rw [c30b0] at h_; simpa using h_))
    have c30b1 : (t366 != 0) = false := bne_eq_false_iff_eq.mpr c30
    clear c30
    have H' := Aside0.mk H
    clear H
    have hnb31 := NB367_354.out
    have hnc31 := NB354_367.out
    obtain ⟨hcz32_0, hcz32_1, hcz32_2, hcz32_3, hcz32_4⟩ := zc5 BK367
    obtain ⟨hfz32_0, hfz32_1, hfz32_2, hfz32_3, hfz32_4⟩ := zf5 BK367
    obtain ⟨hcz33_0, hcz33_1, hcz33_2, hcz33_3, hcz33_4⟩ := zc5 BK354
    obtain ⟨hfz33_0, hfz33_1, hfz33_2, hfz33_3, hfz33_4⟩ := zf5 BK354
    go_wp2
    go_meet
    case rel => exact ⟨_, ((!(t361 == a0_0) || (!(t362 == a0_1) || (!(t363 == a0_2) || (!(t364 == a0_3) || (!(t365 == a0_4))))))), (by first | rfl | (simp; done) | (simp [*]; done)), H', ⟨by have := HJ4.out; first | omega | exact Nat.le_refl _⟩, ⟨by refine bx ?_; refine blk_far ?_ NB354_367.out _; refine bx ?_; refine blk_far ?_ NB354_367.out _; refine bx ?_; refine blk_far ?_ NB354_367.out _; refine bx ?_; refine blk_far ?_ NB354_367.out _; refine bx ?_; refine blk_far ?_ NB354_367.out _; refine bx ?_; exact BK354.out⟩, ⟨by refine bx ?_; refine blk_put (cs := #[.int .i64 t361, .int .i64 t362, .int .i64 t363, .int .i64 t364, .int .i64 0]) ?_ 4 _ rfl; refine bx ?_; refine blk_put (cs := #[.int .i64 t361, .int .i64 t362, .int .i64 t363, .int .i64 0, .int .i64 0]) ?_ 3 _ rfl; refine bx ?_; refine blk_put (cs := #[.int .i64 t361, .int .i64 t362, .int .i64 0, .int .i64 0, .int .i64 0]) ?_ 2 _ rfl; refine bx ?_; refine blk_put (cs := #[.int .i64 t361, .int .i64 0, .int .i64 0, .int .i64 0, .int .i64 0]) ?_ 1 _ rfl; refine bx ?_; refine blk_put (cs := #[.int .i64 0, .int .i64 0, .int .i64 0, .int .i64 0, .int .i64 0]) ?_ 0 _ rfl; refine bx ?_; exact BK367.out⟩, ⟨by repeat (first | (with_reducible first | exact HB.out | apply below_alloc | apply pw_below_drewN | apply below_drew1 | refine below_set ?_ GE354.out | refine below_set ?_ GE367.out) | exact HB.out)⟩⟩
   case rest =>
    clear HC22
    try clear c1
    try clear c2
    try clear p2
    try clear c3
    try clear c5
    try clear p6
    try clear c9
    try clear c9b0
    try clear c9b1
    try clear c10
    try clear c11
    try clear c11b0
    try clear c11b1
    try clear c12
    try clear c13
    try clear c16
    try clear c18
    try clear c18b0
    try clear c18b1
    try clear c19
    try clear c27
    try clear c29
    try clear c29b0
    try clear c29b1
    try clear c29b2
    try clear c30
    try clear c30b0
    try clear c30b1
    try clear c31
    try clear hcz15_0
    try clear hcz15_1
    try clear hcz15_2
    try clear hcz15_3
    try clear hcz15_4
    try clear hcz28_0
    try clear hcz28_1
    try clear hcz28_2
    try clear hcz28_3
    try clear hcz28_4
    try clear hcz32_0
    try clear hcz32_1
    try clear hcz32_2
    try clear hcz32_3
    try clear hcz32_4
    try clear hcz33_0
    try clear hcz33_1
    try clear hcz33_2
    try clear hcz33_3
    try clear hcz33_4
    try clear hcz7_0
    try clear hcz7_1
    try clear hcz7_2
    try clear hcz7_3
    try clear hcz7_4
    try clear hfz15_0
    try clear hfz15_1
    try clear hfz15_2
    try clear hfz15_3
    try clear hfz15_4
    try clear hfz28_0
    try clear hfz28_1
    try clear hfz28_2
    try clear hfz28_3
    try clear hfz28_4
    try clear hfz32_0
    try clear hfz32_1
    try clear hfz32_2
    try clear hfz32_3
    try clear hfz32_4
    try clear hfz33_0
    try clear hfz33_1
    try clear hfz33_2
    try clear hfz33_3
    try clear hfz33_4
    try clear hfz7_0
    try clear hfz7_1
    try clear hfz7_2
    try clear hfz7_3
    try clear hfz7_4
    try clear p2
    obtain ⟨kq, x67_21, rfl, HA, HJ21, BK354, BK367, HB⟩ := hcut
    cases kq with
    | zero => exact absurd HA.out (by simp [withylaw13_MetaTorn.j1])
    | succ kj21 =>
     have H := HA.out
     clear HA
     simp only [withylaw13_MetaTorn.j1] at H
     by_cases c34 : x67_21 = true
     ·subst c34
      have H1 : (none) = some r := by rw [if_pos rfl] at H; exact H
      clear H
      have H := H1
      clear H1
      exact absurd H (by simp)
     replace c34 := Bool.eq_false_iff.mpr c34
     subst c34
     have H1 : ((withyref01_Repeat.f kj21 a2 (t355.size : Int)).bind fun t368 => ((meta_Tear.f t355 t368 (Int.tmod (wrap64 (a1)) (wrap64 ((t355.size : Int) + 1)))).bind fun t369 => ((meta_Decode.f kj21 t369).bind fun bt370 => (if a2 = 87 then ((withylaw13_fixed.f kj21).bind fun t377 => (some t377)) else (if ((bt370.2.2.2.2.2 == 0) == ((Int.tmod (wrap64 (a1)) (wrap64 ((t355.size : Int) + 1))) == (t355.size : Int))) = true then ((withylaw13_fixed.f kj21).bind fun t378 => (some t378)) else (none)))))) = some r := by rw [if_neg (show ¬ (false = true) by decide)] at H; exact H
     clear H
     have H := H1
     clear H1
     replace H := bM H
     obtain ⟨t368, A350, H⟩ := H
     replace H : ((meta_Tear.f t355 t368 (Int.tmod (wrap64 (a1)) (wrap64 ((t355.size : Int) + 1)))).bind fun t369 => ((meta_Decode.f kj21 t369).bind fun bt370 => (if a2 = 87 then ((withylaw13_fixed.f kj21).bind fun t377 => (some t377)) else (if ((bt370.2.2.2.2.2 == 0) == ((Int.tmod (wrap64 (a1)) (wrap64 ((t355.size : Int) + 1))) == (t355.size : Int))) = true then ((withylaw13_fixed.f kj21).bind fun t378 => (some t378)) else (none))))) = some r := H
     have A35 := Aside0.mk A350
     clear A350
     replace H := bM H
     obtain ⟨t369, A360, H⟩ := H
     replace H : ((meta_Decode.f kj21 t369).bind fun bt370 => (if a2 = 87 then ((withylaw13_fixed.f kj21).bind fun t377 => (some t377)) else (if ((bt370.2.2.2.2.2 == 0) == ((Int.tmod (wrap64 (a1)) (wrap64 ((t355.size : Int) + 1))) == (t355.size : Int))) = true then ((withylaw13_fixed.f kj21).bind fun t378 => (some t378)) else (none)))) = some r := H
     have A36 := Aside0.mk A360
     clear A360
     replace H := bM H
     obtain ⟨⟨t370, t371, t372, t373, t374, t375⟩, A370, H⟩ := H
     replace H : (if a2 = 87 then ((withylaw13_fixed.f kj21).bind fun t377 => (some t377)) else (if ((t375 == 0) == ((Int.tmod (wrap64 (a1)) (wrap64 ((t355.size : Int) + 1))) == (t355.size : Int))) = true then ((withylaw13_fixed.f kj21).bind fun t378 => (some t378)) else (none))) = some r := H
     have A37 := Aside0.mk A370
     clear A370
     by_cases c38 : a2 = 87
     ·rw [if_pos c38] at H
      have c38b0 : (a2 == 87) = true := beq_iff_eq.mpr c38
      have c38b1 : (a2 != 87) = false := bne_eq_false_iff_eq.mpr c38
      clear c38
      replace H := bM H
      obtain ⟨t377, A390, H⟩ := H
      replace H : (some t377) = some r := H
      have A39 := Aside0.mk A390
      clear A390
      obtain rfl := Option.some.inj H
      go_wp2_with (first | ((with_reducible refine gate_callee (f := 19) rfl ?_); refine goesL_ (some 73) rfl rfl Try.func19 (by kernel_rfl) rfl #[.int .u8 a2, .int .i64 (t355.size : Int)] rfl aO ?_; (with_reducible refine (withyref01_Repeat.calls kj21 a2 (t355.size : Int) t368 _ A35.out).mono ?_); rintro e w40 ⟨rfl, hb⟩; refine ⟨_, rfl, ?_⟩; replace BK354 := bb BK354 hb; replace BK367 := bb BK367 hb; replace HB := as_ (below_step bA hb); (try clear hb); (try clear hb2); (try clear hk); (try clear hi)) | ((with_reducible refine gate_callee (f := 16) rfl ?_); refine goesL_ (some 75) rfl rfl Try.func16 (by kernel_rfl) rfl #[.string t355, .string t368, .int .i64 (Int.tmod (wrap64 (a1)) (wrap64 ((t355.size : Int) + 1)))] rfl aO ?_; (first | (with_reducible refine (meta_Tear.calls t355 t368 (Int.tmod (wrap64 (a1)) (wrap64 ((t355.size : Int) + 1))) t369 _ A36.out).mono ?_) | (with_reducible refine (meta_Tear.calls t355 t368 (Int.tmod (a1) ((t355.size : Int) + 1)) t369 _ (by have e_ := A36.out; rwa [(by unfold wrap64; omega : wrap64 ((t355.size : Int) + 1) = ((t355.size : Int) + 1)), (by unfold wrap64; omega : wrap64 (a1) = (a1))] at e_)).mono ?_)); rintro e w41 ⟨rfl, hb⟩; refine ⟨_, rfl, ?_⟩; replace BK354 := bb BK354 hb; replace BK367 := bb BK367 hb; replace HB := as_ (below_step bA hb); (try clear hb); (try clear hb2); (try clear hk); (try clear hi)) | ((with_reducible refine gate_callee (f := 12) rfl ?_); refine goesL_ (some 76) rfl rfl Try.func12 (by kernel_rfl) rfl #[.string t369] rfl aO ?_; (with_reducible refine (meta_Decode.calls kj21 t369 t370 t371 t372 t373 t374 t375 _ A37.out).mono ?_); rintro e w42 ⟨rfl, hb⟩; refine ⟨_, rfl, ?_⟩; replace BK354 := bb BK354 hb; replace BK367 := bb BK367 hb; replace HB := as_ (below_step bA hb); (try clear hb); (try clear hb2); (try clear hk); (try clear hi)) | ((with_reducible refine gate_dst (N := 12) rfl ?_); (try (refine gate_guard (by rfl) ?_; dsimp only)); refine box_event (by rfl) (N := 12) (by rfl) (cs := #[.int .i64 0, .int .i64 0, .int .i64 0, .int .i64 0, .int .i64 0]) (t := 23) gS ?_; intro gb376 hg w43 hbox hb; have BK376 := as_ (hbox); have GW376 := gw hg bA; have GE376 := gw hg bA; have NB354_376 := nl BK354 hg; have NB376_354 := ng BK354 hg; have NB367_376 := nl BK367 hg; have NB376_367 := ng BK367 hg; replace BK354 := bb BK354 hb; replace BK367 := bb BK367 hb; replace HB := as_ (below_step bA hb); clear hb hbox hg; have hnb44 := NB376_354.out; have hnc44 := NB354_376.out; have hnb45 := NB376_367.out; have hnc45 := NB367_376.out; obtain ⟨hcz46_0, hcz46_1, hcz46_2, hcz46_3, hcz46_4⟩ := zc5 BK376; obtain ⟨hfz46_0, hfz46_1, hfz46_2, hfz46_3, hfz46_4⟩ := zf5 BK376) | (go_at_call 18; (with_reducible refine (withylaw13_fixed.calls kj21  t377 _ A39.out).mono ?_); rintro e w47 ⟨rfl, hb⟩; have n0_ := as_ (blk_below (g := gb354) (o := .cells #[.int .i64 a0_0, .int .i64 a0_1, .int .i64 a0_2, .int .i64 a0_3, .int .i64 a0_4] 23 (0, 0)) (by refine bx ?_; refine blk_far ?_ NB354_376.out _; refine bx ?_; refine blk_far ?_ NB354_376.out _; refine bx ?_; refine blk_far ?_ NB354_376.out _; refine bx ?_; refine blk_far ?_ NB354_376.out _; refine bx ?_; refine blk_far ?_ NB354_376.out _; refine bx ?_; exact BK354.out) hb); have n1_ := as_ (blk_below (g := gb367) (o := .cells #[.int .i64 t361, .int .i64 t362, .int .i64 t363, .int .i64 t364, .int .i64 t365] 23 (0, 0)) (by refine bx ?_; refine blk_far ?_ NB367_376.out _; refine bx ?_; refine blk_far ?_ NB367_376.out _; refine bx ?_; refine blk_far ?_ NB367_376.out _; refine bx ?_; refine blk_far ?_ NB367_376.out _; refine bx ?_; refine blk_far ?_ NB367_376.out _; refine bx ?_; exact BK367.out) hb); have n2_ := as_ (blk_below (g := gb376) (o := .cells #[.int .i64 t370, .int .i64 t371, .int .i64 t372, .int .i64 t373, .int .i64 t374] 23 (0, 0)) (by refine bx ?_; refine blk_put (cs := #[.int .i64 t370, .int .i64 t371, .int .i64 t372, .int .i64 t373, .int .i64 0]) ?_ 4 _ rfl; refine bx ?_; refine blk_put (cs := #[.int .i64 t370, .int .i64 t371, .int .i64 t372, .int .i64 0, .int .i64 0]) ?_ 3 _ rfl; refine bx ?_; refine blk_put (cs := #[.int .i64 t370, .int .i64 t371, .int .i64 0, .int .i64 0, .int .i64 0]) ?_ 2 _ rfl; refine bx ?_; refine blk_put (cs := #[.int .i64 t370, .int .i64 0, .int .i64 0, .int .i64 0, .int .i64 0]) ?_ 1 _ rfl; refine bx ?_; refine blk_put (cs := #[.int .i64 0, .int .i64 0, .int .i64 0, .int .i64 0, .int .i64 0]) ?_ 0 _ rfl; refine bx ?_; exact BK376.out) hb); have n3_ := as_ (below_step bA hb); clear BK354; clear BK367; clear BK376; clear HB; have BK354 := n0_; have BK367 := n1_; have BK376 := n2_; have HB := n3_; clear n0_ n1_ n2_ n3_; (try clear hb); (try clear hb2); (try clear hk); (try clear hi)))
      go_ret
      exact ⟨eW, by repeat (first | (with_reducible first | exact HB.out | apply below_alloc | apply pw_below_drewN | apply below_drew1 | refine below_set ?_ GE354.out | refine below_set ?_ GE367.out | refine below_set ?_ GE376.out) | exact HB.out)⟩
     rw [if_neg c38] at H
     have c38b0 : (a2 == 87) = false := beq_eq_false_iff_ne.mpr c38
     have c38b1 : (a2 != 87) = true := bne_iff_ne.mpr c38
     by_cases c48 : ((t375 == 0) == ((Int.tmod (wrap64 (a1)) (wrap64 ((t355.size : Int) + 1))) == (t355.size : Int))) = true
     rotate_left
     ·rw [if_neg c48] at H
      exact absurd H (by simp)
 
     rw [if_pos c48] at H
     have c48b0 : ((t375 == 0) == ((Int.tmod (wrap64 (a1)) (wrap64 ((t355.size : Int) + 1))) == (t355.size : Int))) = true := c48
     (try (have c48b1 : decide ((t375 == 0) = ((Int.tmod (wrap64 (a1)) (wrap64 ((t355.size : Int) + 1))) == (t355.size : Int))) = true := by simpa using c48))
     (try (have c48b2 : ((t375 == 0) == ((Int.tmod (wrap64 (a1)) (wrap64 ((t355.size : Int) + 1))) == (t355.size : Int))) = true := by simpa using c48))
     clear c48
     replace H := bM H
     obtain ⟨t378, A490, H⟩ := H
     replace H : (some t378) = some r := H
     have A49 := Aside0.mk A490
     clear A490
     obtain rfl := Option.some.inj H
     go_wp2_with (first | ((with_reducible refine gate_callee (f := 19) rfl ?_); refine goesL_ (some 73) rfl rfl Try.func19 (by kernel_rfl) rfl #[.int .u8 a2, .int .i64 (t355.size : Int)] rfl aO ?_; (with_reducible refine (withyref01_Repeat.calls kj21 a2 (t355.size : Int) t368 _ A35.out).mono ?_); rintro e w50 ⟨rfl, hb⟩; refine ⟨_, rfl, ?_⟩; replace BK354 := bb BK354 hb; replace BK367 := bb BK367 hb; replace HB := as_ (below_step bA hb); (try clear hb); (try clear hb2); (try clear hk); (try clear hi)) | ((with_reducible refine gate_callee (f := 16) rfl ?_); refine goesL_ (some 75) rfl rfl Try.func16 (by kernel_rfl) rfl #[.string t355, .string t368, .int .i64 (Int.tmod (wrap64 (a1)) (wrap64 ((t355.size : Int) + 1)))] rfl aO ?_; (first | (with_reducible refine (meta_Tear.calls t355 t368 (Int.tmod (wrap64 (a1)) (wrap64 ((t355.size : Int) + 1))) t369 _ A36.out).mono ?_) | (with_reducible refine (meta_Tear.calls t355 t368 (Int.tmod (a1) ((t355.size : Int) + 1)) t369 _ (by have e_ := A36.out; rwa [(by unfold wrap64; omega : wrap64 ((t355.size : Int) + 1) = ((t355.size : Int) + 1)), (by unfold wrap64; omega : wrap64 (a1) = (a1))] at e_)).mono ?_)); rintro e w51 ⟨rfl, hb⟩; refine ⟨_, rfl, ?_⟩; replace BK354 := bb BK354 hb; replace BK367 := bb BK367 hb; replace HB := as_ (below_step bA hb); (try clear hb); (try clear hb2); (try clear hk); (try clear hi)) | ((with_reducible refine gate_callee (f := 12) rfl ?_); refine goesL_ (some 76) rfl rfl Try.func12 (by kernel_rfl) rfl #[.string t369] rfl aO ?_; (with_reducible refine (meta_Decode.calls kj21 t369 t370 t371 t372 t373 t374 t375 _ A37.out).mono ?_); rintro e w52 ⟨rfl, hb⟩; refine ⟨_, rfl, ?_⟩; replace BK354 := bb BK354 hb; replace BK367 := bb BK367 hb; replace HB := as_ (below_step bA hb); (try clear hb); (try clear hb2); (try clear hk); (try clear hi)) | ((with_reducible refine gate_dst (N := 12) rfl ?_); (try (refine gate_guard (by rfl) ?_; dsimp only)); refine box_event (by rfl) (N := 12) (by rfl) (cs := #[.int .i64 0, .int .i64 0, .int .i64 0, .int .i64 0, .int .i64 0]) (t := 23) gS ?_; intro gb376 hg w53 hbox hb; have BK376 := as_ (hbox); have GW376 := gw hg bA; have GE376 := gw hg bA; have NB354_376 := nl BK354 hg; have NB376_354 := ng BK354 hg; have NB367_376 := nl BK367 hg; have NB376_367 := ng BK367 hg; replace BK354 := bb BK354 hb; replace BK367 := bb BK367 hb; replace HB := as_ (below_step bA hb); clear hb hbox hg; have hnb54 := NB376_354.out; have hnc54 := NB354_376.out; have hnb55 := NB376_367.out; have hnc55 := NB367_376.out; obtain ⟨hcz56_0, hcz56_1, hcz56_2, hcz56_3, hcz56_4⟩ := zc5 BK376; obtain ⟨hfz56_0, hfz56_1, hfz56_2, hfz56_3, hfz56_4⟩ := zf5 BK376) | (go_at_call 18; (with_reducible refine (withylaw13_fixed.calls kj21  t378 _ A49.out).mono ?_); rintro e w57 ⟨rfl, hb⟩; have n0_ := as_ (blk_below (g := gb354) (o := .cells #[.int .i64 a0_0, .int .i64 a0_1, .int .i64 a0_2, .int .i64 a0_3, .int .i64 a0_4] 23 (0, 0)) (by refine bx ?_; refine blk_far ?_ NB354_376.out _; refine bx ?_; refine blk_far ?_ NB354_376.out _; refine bx ?_; refine blk_far ?_ NB354_376.out _; refine bx ?_; refine blk_far ?_ NB354_376.out _; refine bx ?_; refine blk_far ?_ NB354_376.out _; refine bx ?_; exact BK354.out) hb); have n1_ := as_ (blk_below (g := gb367) (o := .cells #[.int .i64 t361, .int .i64 t362, .int .i64 t363, .int .i64 t364, .int .i64 t365] 23 (0, 0)) (by refine bx ?_; refine blk_far ?_ NB367_376.out _; refine bx ?_; refine blk_far ?_ NB367_376.out _; refine bx ?_; refine blk_far ?_ NB367_376.out _; refine bx ?_; refine blk_far ?_ NB367_376.out _; refine bx ?_; refine blk_far ?_ NB367_376.out _; refine bx ?_; exact BK367.out) hb); have n2_ := as_ (blk_below (g := gb376) (o := .cells #[.int .i64 t370, .int .i64 t371, .int .i64 t372, .int .i64 t373, .int .i64 t374] 23 (0, 0)) (by refine bx ?_; refine blk_put (cs := #[.int .i64 t370, .int .i64 t371, .int .i64 t372, .int .i64 t373, .int .i64 0]) ?_ 4 _ rfl; refine bx ?_; refine blk_put (cs := #[.int .i64 t370, .int .i64 t371, .int .i64 t372, .int .i64 0, .int .i64 0]) ?_ 3 _ rfl; refine bx ?_; refine blk_put (cs := #[.int .i64 t370, .int .i64 t371, .int .i64 0, .int .i64 0, .int .i64 0]) ?_ 2 _ rfl; refine bx ?_; refine blk_put (cs := #[.int .i64 t370, .int .i64 0, .int .i64 0, .int .i64 0, .int .i64 0]) ?_ 1 _ rfl; refine bx ?_; refine blk_put (cs := #[.int .i64 0, .int .i64 0, .int .i64 0, .int .i64 0, .int .i64 0]) ?_ 0 _ rfl; refine bx ?_; exact BK376.out) hb); have n3_ := as_ (below_step bA hb); clear BK354; clear BK367; clear BK376; clear HB; have BK354 := n0_; have BK367 := n1_; have BK376 := n2_; have HB := n3_; clear n0_ n1_ n2_ n3_; (try clear hb); (try clear hb2); (try clear hk); (try clear hi)))
     go_ret
     exact ⟨eW, by repeat (first | (with_reducible first | exact HB.out | apply below_alloc | apply pw_below_drewN | apply below_drew1 | refine below_set ?_ GE354.out | refine below_set ?_ GE367.out | refine below_set ?_ GE376.out) | exact HB.out)⟩
end Go.Proofs.Ytnkndnpnjbcaoaa.P
