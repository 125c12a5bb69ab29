/- What is proved here: for functions of the Go text, a Lean function each, and that the call comes to just what it answers. Conditions: as each contract names them. Written by wip/tools/myprint.py, a driver of the print of the kit. -/
import Derived.Test.YtnkndnpnjbcaoaaP0
import Derived.Test.YtnkndnpnjbcaoaaP1
import Derived.Test.YtnkndnpnjbcaoaaP3
import Derived.Test.YtnkndnpnjbcaoaaP6
import Derived.Test.YtnkndnpnjbcaoaaP8
import Derived.Test.YtnkndnpnjbcaoaaP10
import Derived.Test.YtnkndnpnjbcaoaaP11
import Derived.Test.YtnkndnpnjbcaoaaWAbbr
namespace Go.Proofs.Ytnkndnpnjbcaoaa.P
open Go.RowKit Go.Proofs.YtnkndnpnjbcaoaaW.PrintWords Go.Proofs.YtnkndnpnjbcaoaaW.PrintLast Go.Proofs.YtnkndnpnjbcaoaaW.PrintMore Go.Proofs.YtnkndnpnjbcaoaaW.Abbr
-- PACKED
attribute [local go_sem] max2_int min2_int max_two min_two max_three min_three max_four min_four Go.Proofs.YtnkndnpnjbcaoaaLaws.str_leq Go.Proofs.YtnkndnpnjbcaoaaLaws.str_gtr Go.Proofs.YtnkndnpnjbcaoaaLaws.str_geq Go.Proofs.YtnkndnpnjbcaoaaLaws.max2_str Go.Proofs.YtnkndnpnjbcaoaaLaws.min2_str   -- for this text's walks alone
set_option linter.unusedVariables false
set_option linter.unusedSimpArgs false

attribute [local go_sem high] eqA23
/-! ### withyref01_Read: function 21 -/
mutual
def withyref01_Read.j0 : Nat → ByteArray → Int → Bool → Option (Int × Int)
 | 0, _, _, _ => none
 | k + 1, x0, x1, x15 => if x15 = true then (some (0, 4)) else (if (wrap64 (x1 + 4)) > (x0.size : Int) then (some (0, 7)) else (withyref01_Read.l0 k x0 x1 0 3))
def withyref01_Read.l0 : Nat → ByteArray → Int → Int → Int → Option (Int × Int)
 | 0, _, _, _, _ => none
 | k + 1, x0, x1, x6, x7 => if x7 ≥ 0 then (if 0 ≤ (wrap64 (x1 + x7)) then (if (wrap64 (x1 + x7)) < (x0.size : Int) then (withyref01_Read.l0 k x0 x1 ((((x6 * 256) % 4294967296) + ((bt x0 (wrap64 (x1 + x7))) % 4294967296)) % 4294967296) (wrap64 (x7 - 1))) else (none)) else (none)) else (some (x6, 0))
end
def withyref01_Read.f (k : Nat) (a0 : ByteArray) (a1 : Int) : Option (Int × Int) := if a1 < 0 then (withyref01_Read.j0 k a0 a1 true) else (withyref01_Read.j0 k a0 a1 (decide (a1 > (a0.size : Int))))
theorem withyref01_Read.mono_l : ∀ k, (∀ y0 y1 y2, LeO (withyref01_Read.j0 k y0 y1 y2) (withyref01_Read.j0 (k + 1) y0 y1 y2)) ∧ (∀ y0 y1 y2 y3, LeO (withyref01_Read.l0 k y0 y1 y2 y3) (withyref01_Read.l0 (k + 1) y0 y1 y2 y3))
 | 0 => ⟨fun _ _ _ r h => by simp [withyref01_Read.j0] at h, fun _ _ _ _ r h => by simp [withyref01_Read.l0] at h⟩
 | k + 1 => by
  obtain ⟨ih0, ih1⟩ := withyref01_Read.mono_l k
  refine ⟨?_, ?_⟩
  ·intro y0 y1 y2
   unfold withyref01_Read.j0
   repeat' first
   | (with_reducible exact ih0 _ _ _)
   | (with_reducible exact ih1 _ _ _ _)
   | (with_reducible exact LeO.refl _)
   | (with_reducible exact LeO.none _)
   | (with_reducible refine LeO.ite ?_ ?_)
   | (with_reducible refine LeO.bind ?_ (fun _ => ?_))
   | exact ih0 _ _ _
   | exact ih1 _ _ _ _
   | exact LeO.none _
   | refine LeO.ite ?_ ?_
   | refine LeO.bind ?_ (fun _ => ?_)
  ·intro y0 y1 y2 y3
   unfold withyref01_Read.l0
   repeat' first
   | (with_reducible exact ih0 _ _ _)
   | (with_reducible exact ih1 _ _ _ _)
   | (with_reducible exact LeO.refl _)
   | (with_reducible exact LeO.none _)
   | (with_reducible refine LeO.ite ?_ ?_)
   | (with_reducible refine LeO.bind ?_ (fun _ => ?_))
   | exact ih0 _ _ _
   | exact ih1 _ _ _ _
   | exact LeO.none _
   | refine LeO.ite ?_ ?_
   | refine LeO.bind ?_ (fun _ => ?_)
theorem withyref01_Read.mono : ∀ a0 a1 k, LeO (withyref01_Read.f k a0 a1) (withyref01_Read.f (k + 1) a0 a1) := by
 intro a0 a1 k
 obtain ⟨ih0, ih1⟩ := withyref01_Read.mono_l k
 unfold withyref01_Read.f
 repeat' first
   | (with_reducible exact ih0 _ _ _)
   | (with_reducible exact ih1 _ _ _ _)
   | (with_reducible exact LeO.refl _)
   | (with_reducible exact LeO.none _)
   | (with_reducible refine LeO.ite ?_ ?_)
   | (with_reducible refine LeO.bind ?_ (fun _ => ?_))
   | exact ih0 _ _ _
   | exact ih1 _ _ _ _
   | exact LeO.none _
   | refine LeO.ite ?_ ?_
   | refine LeO.bind ?_ (fun _ => ?_)
set_option maxHeartbeats 8000000 in
set_option maxRecDepth 100000 in
theorem withyref01_Read.calls (k : Nat) (a0 : ByteArray) (a1 : Int) (r1 : Int) (r2 : Int) (w : World) (h : withyref01_Read.f k a0 a1 = some (r1, r2)) :
  Calls Try.prog 21 #[.string a0, .int .i64 a1] w fun e w' => e = .returned (.tuple #[.int .u32 r1, .int .i64 r2]) ∧ Drawn0 w w' := by
 have H : (if a1 < 0 then (withyref01_Read.j0 k a0 a1 true) else (withyref01_Read.j0 k a0 a1 (decide (a1 > (a0.size : Int))))) = some (r1, r2) := h
 clear h
 have HC3 := Aside0.mk H
 clear H
 go_enter Try.func21, Try.ntmps21
 go_upto_region 1 with (fail)
 go_cut [15] (fun v15 wc => ∃ (kq : Nat) (x15_2 : Bool), v15 = .bool x15_2 ∧ Aside0 (withyref01_Read.j0 kq a0 a1 x15_2 = some (r1, r2)) ∧ Aside0 (kq ≤ k) ∧ Drawn0 w wc)
 case first =>
  have H := HC3.out
  clear HC3
  by_cases c4 : a1 < 0
  rotate_left
  ·rw [if_neg c4] at H
   have c4b0 : decide (a1 < 0) = false := decide_eq_false c4
   clear c4
   (first | rw [c4b0] | (simp only [i64_w, i32_w]; rw [c4b0]) | rw [c4b1] | skip)
   have H' := Aside0.mk H
   clear H
   go_wp2
   go_meet
   case rel => exact ⟨_, (decide (a1 > (a0.size : Int))), (by first | rfl | (simp; done) | (simp [*]; done)), H', ⟨by first | omega | exact Nat.le_refl _⟩, by repeat (first | exact Drawn0.refl _ | apply Drawn0.step)⟩
  rw [if_pos c4] at H
  have c4b0 : decide (a1 < 0) = true := decide_eq_true c4
  clear c4
  (first | rw [c4b0] | (simp only [i64_w, i32_w]; rw [c4b0]) | rw [c4b1] | skip)
  have H' := Aside0.mk H
  clear H
  go_wp2
  go_meet
  case rel => exact ⟨_, (true), (by first | rfl | (simp; done) | (simp [*]; done)), H', ⟨by first | omega | exact Nat.le_refl _⟩, by repeat (first | exact Drawn0.refl _ | apply Drawn0.step)⟩
 case rest =>
  clear HC3
  try clear c2
  try clear p2
  try clear c4
  try clear c4b0
  try clear c4b1
  obtain ⟨kq, x15_2, rfl, HA, HJ2, ⟨mc2, rfl⟩⟩ := hcut
  cases kq with
  | zero => exact absurd HA.out (by simp [withyref01_Read.j0])
  | succ kj2 =>
   have H := HA.out
   clear HA
   simp only [withyref01_Read.j0] at H
   by_cases c5 : x15_2 = true
   ·subst c5
    have H1 : (some (0, 4)) = some (r1, r2) := by rw [if_pos rfl] at H; exact H
    clear H
    have H := H1
    clear H1
    simp only [Option.some.injEq, Prod.mk.injEq] at H
    obtain ⟨rfl, rfl⟩ := H
    go_wp2
    go_ret2
    exact ⟨by first | rfl | (simp; done) | (simp [*]; done), by repeat (first | exact Drawn0.refl _ | apply Drawn0.step)⟩
   replace c5 := Bool.eq_false_iff.mpr c5
   subst c5
   have H1 : (if (wrap64 (a1 + 4)) > (a0.size : Int) then (some (0, 7)) else (withyref01_Read.l0 kj2 a0 a1 0 3)) = some (r1, r2) := by rw [if_neg (show ¬ (false = true) by decide)] at H; exact H
   clear H
   have H := H1
   clear H1
   by_cases c6 : (wrap64 (a1 + 4)) > (a0.size : Int)
   ·rw [if_pos c6] at H
    have c6b0 : decide ((a0.size : Int) < (wrap64 (a1 + 4))) = true := decide_eq_true c6
    clear c6
    simp only [Option.some.injEq, Prod.mk.injEq] at H
    obtain ⟨rfl, rfl⟩ := H
    go_wp2
    go_ret2
    exact ⟨by first | rfl | (simp; done) | (simp [*]; done), by repeat (first | exact Drawn0.refl _ | apply Drawn0.step)⟩
   rw [if_neg c6] at H
   have c6b0 : decide ((a0.size : Int) < (wrap64 (a1 + 4))) = false := decide_eq_false c6
   clear c6
   have H' := Aside0.mk H
   clear H
   go_wp2
   go_loopg [6, 7] kj2 (fun kq v6 v7 w' => ∃ (x6_2 : Int) (x7_2 : Int), v6 = .int .u32 x6_2 ∧ v7 = .int .i64 x7_2 ∧ Aside0 (withyref01_Read.l0 kq a0 a1 x6_2 x7_2 = some (r1, r2)) ∧ Aside0 (kq ≤ kj2) ∧ Drawn0 w w')
   case atStart => exact ⟨(0), (3), (by first | rfl | (simp; done) | (simp [*]; done)), (by first | rfl | (simp; done) | (simp [*]; done)), H', ⟨Nat.le_refl _⟩, by repeat (first | exact Drawn0.refl _ | apply Drawn0.step)⟩
   case round =>
    clear H'
    try clear c2
    try clear p2
    try clear c4
    try clear c4b0
    try clear c4b1
    try clear c5
    try clear c6
    try clear c6b0
    try clear p6
    try clear p2
    obtain ⟨x6_2, x7_2, rfl, rfl, HA, HK2, ⟨m2, rfl⟩⟩ := hrel
    cases gk with
    | zero => exact absurd HA.out (by simp [withyref01_Read.l0])
    | succ k2 =>
     have H := HA.out
     clear HA
     simp only [withyref01_Read.l0] at H
     by_cases c7 : x7_2 ≥ 0
     rotate_left
     ·rw [if_neg c7] at H
      have c7b0 : decide (0 ≤ x7_2) = false := decide_eq_false c7
      clear c7
      simp only [Option.some.injEq, Prod.mk.injEq] at H
      obtain ⟨rfl, rfl⟩ := H
      go_wp2
      go_ret2
      exact ⟨by first | rfl | (simp; done) | (simp [*]; done), by repeat (first | exact Drawn0.refl _ | apply Drawn0.step)⟩
 
     rw [if_pos c7] at H
     have c7b0 : decide (0 ≤ x7_2) = true := decide_eq_true c7
     clear c7
     obtain ⟨ji8, hji8⟩ : ∃ j_ : Int, (wrap64 (a1 + x7_2)) = j_ := ⟨_, rfl⟩
     replace H : (if 0 ≤ (ji8) then (if (ji8) < (a0.size : Int) then (withyref01_Read.l0 k2 a0 a1 ((((x6_2 * 256) % 4294967296) + ((bt a0 (ji8)) % 4294967296)) % 4294967296) (wrap64 (x7_2 - 1))) else (none)) else (none)) = some (r1, r2) := by first | (rw [hji8] at H; exact H) | (simp only [hji8] at H ⊢; exact H)
     have hji8w : (IntKind.i64.wrap (a1 + x7_2)) = ji8 := (i64_w _).trans hji8
     by_cases c9 : 0 ≤ (ji8)
     rotate_left
     ·rw [if_neg c9] at H
      exact absurd H (by simp)
     rw [if_pos c9] at H
     have c9b0 : decide (0 ≤ (ji8)) = true := decide_eq_true c9
     clear c9
     by_cases c10 : (ji8) < (a0.size : Int)
     rotate_left
     ·rw [if_neg c10] at H
      exact absurd H (by simp)
     rw [if_pos c10] at H
     have c10b0 : decide ((ji8) < (a0.size : Int)) = true := decide_eq_true c10
     clear c10
     have H' := Aside0.mk H
     clear H
     have p11 : 0 ≤ ((ji8) : Int) := of_decide_eq_true aM
     have q11 : (ji8) < (a0.size : Int) := of_decide_eq_true aM
     have hx11 := bt_at a0 (ji8)
     replace p11 := eq_true p11
     replace q11 := eq_true q11
     go_wp2
     go_roundg k2
     case measure => have := HJ2.out; have := HK2.out; omega
     case rel => exact ⟨((((x6_2 * 256) % 4294967296) + ((bt a0 (ji8)) % 4294967296)) % 4294967296), (wrap64 (x7_2 - 1)), (by first | rfl | (simp; done) | (simp only [← hji8] <;> (first | rfl | simp)) | (simp [*]; done)), (by first | rfl | (simp; done) | (simp [*]; done)), H', ⟨by have := HJ2.out; have := HK2.out; omega⟩, by repeat (first | exact Drawn0.refl _ | apply Drawn0.step)⟩
/-! ### withyref13_Decode: function 13 -/
def withyref13_Decode.f (k : Nat) (a0 : ByteArray) : Option (Int × Int × Int × Int × Int × Int) := (withyref07_Open.f k a0).bind fun bt225 => (if bt225.2.2.2.2.2.2 = 0 then ((withyref01_Read.f k bt225.2.2.2.2.2.1 5).bind fun bt233 => ((withyref01_Read.f k bt225.2.2.2.2.2.1 9).bind fun bt235 => ((withyref01_Read.f k bt225.2.2.2.2.2.1 13).bind fun bt237 => ((withyref13_Encode.f k (wrap64 (bt233.1)) (wrap64 (bt235.1)) bt225.2.2.2.1 bt225.2.1 (wrap64 (bt237.1))).bind fun bt240 => (if bt240.2 = 0 then (if bt240.1.toList = a0.toList then (some (wrap64 (bt233.1), wrap64 (bt235.1), bt225.2.2.2.1, bt225.2.1, wrap64 (bt237.1), 0)) else (some (0, 0, 0, 0, 0, 3))) else (some (0, 0, 0, 0, 0, 3))))))) else (some (0, 0, 0, 0, 0, 3)))
theorem withyref13_Decode.mono : ∀ a0 k, LeO (withyref13_Decode.f k a0) (withyref13_Decode.f (k + 1) a0) := by
 intro a0 k
 unfold withyref13_Decode.f
 repeat' first
   | (with_reducible exact withyref01_Read.mono _ _ _)
   | (with_reducible exact withyref07_Open.mono _ _)
   | (with_reducible exact withyref13_Encode.mono _ _ _ _ _ _)
   | (with_reducible exact LeO.refl _)
   | (with_reducible exact LeO.none _)
   | (with_reducible refine LeO.ite ?_ ?_)
   | (with_reducible refine LeO.bind ?_ (fun _ => ?_))
   | exact withyref01_Read.mono _ _ _
   | exact withyref07_Open.mono _ _
   | exact withyref13_Encode.mono _ _ _ _ _ _
   | exact LeO.none _
   | refine LeO.ite ?_ ?_
   | refine LeO.bind ?_ (fun _ => ?_)
set_option maxHeartbeats 8000000 in
set_option maxRecDepth 100000 in
theorem withyref13_Decode.calls (k : Nat) (a0 : ByteArray) (r1 : Int) (r2 : Int) (r3 : Int) (r4 : Int) (r5 : Int) (r6 : Int) (w : World) (h : withyref13_Decode.f k a0 = some (r1, r2, r3, r4, r5, r6)) :
  Calls Try.prog 13 #[.string a0] w fun e w' => e = .returned (.tuple #[.agg #[.int .i64 r1, .int .i64 r2, .int .i64 r3, .int .i64 r4, .int .i64 r5], .int .i64 r6]) ∧ Below w.heap.size w w' := by
 have hu29 := Try.underlying29
 have hu45 := Try.underlying45
 have HB := as_ (Below.refl w.heap.size w)
 have H : ((withyref07_Open.f k a0).bind fun bt225 => (if bt225.2.2.2.2.2.2 = 0 then ((withyref01_Read.f k bt225.2.2.2.2.2.1 5).bind fun bt233 => ((withyref01_Read.f k bt225.2.2.2.2.2.1 9).bind fun bt235 => ((withyref01_Read.f k bt225.2.2.2.2.2.1 13).bind fun bt237 => ((withyref13_Encode.f k (wrap64 (bt233.1)) (wrap64 (bt235.1)) bt225.2.2.2.1 bt225.2.1 (wrap64 (bt237.1))).bind fun bt240 => (if bt240.2 = 0 then (if bt240.1.toList = a0.toList then (some (wrap64 (bt233.1), wrap64 (bt235.1), bt225.2.2.2.1, bt225.2.1, wrap64 (bt237.1), 0)) else (some (0, 0, 0, 0, 0, 3))) else (some (0, 0, 0, 0, 0, 3))))))) else (some (0, 0, 0, 0, 0, 3)))) = some (r1, r2, r3, r4, r5, r6) := h
 clear h
 replace H := bM H
 obtain ⟨⟨t225, t226, t227, t228, t229, t230, t231⟩, A20, H⟩ := H
 replace H : (if t231 = 0 then ((withyref01_Read.f k t230 5).bind fun bt233 => ((withyref01_Read.f k t230 9).bind fun bt235 => ((withyref01_Read.f k t230 13).bind fun bt237 => ((withyref13_Encode.f k (wrap64 (bt233.1)) (wrap64 (bt235.1)) t228 t226 (wrap64 (bt237.1))).bind fun bt240 => (if bt240.2 = 0 then (if bt240.1.toList = a0.toList then (some (wrap64 (bt233.1), wrap64 (bt235.1), t228, t226, wrap64 (bt237.1), 0)) else (some (0, 0, 0, 0, 0, 3))) else (some (0, 0, 0, 0, 0, 3))))))) else (some (0, 0, 0, 0, 0, 3))) = some (r1, r2, r3, r4, r5, r6) := H
 have A2 := Aside0.mk A20
 clear A20
 by_cases c3 : t231 = 0
 rotate_left
 ·rw [if_neg c3] at H
  have c3b0 : (t231 == 0) = false := beq_eq_false_iff_ne.mpr c3
  have c3b1 : (t231 != 0) = true := bne_iff_ne.mpr c3
  simp only [Option.some.injEq, Prod.mk.injEq] at H
  obtain ⟨rfl, rfl, rfl, rfl, rfl, rfl⟩ := H
  go_enter Try.func13, Try.ntmps13
  go_wp2_with (first | ((with_reducible refine gate_dst (N := 2) rfl ?_); refine box_event (by rfl) (N := 2) (by rfl) (cs := #[.int .i64 0, .int .i64 0, .int .i64 0, .int .i64 0, .int .i64 0]) (t := 29) gS ?_; intro gb224 hg w44 hbox hb; have BK224 := as_ (hbox); have GW224 := gw hg bA; have GE224 := gw hg bA; replace HB := as_ (below_step bA hb); clear hb hbox hg) | ((with_reducible refine gate_callee (f := 20) rfl ?_); refine goesL_ (some 18) rfl rfl Try.func20 (by kernel_rfl) rfl #[.string a0] rfl aO ?_; (with_reducible refine (withyref07_Open.calls k a0 t225 t226 t227 t228 t229 t230 t231 _ A2.out).mono ?_); rintro e w45 ⟨rfl, hb⟩; refine ⟨_, rfl, ?_⟩; replace BK224 := bb BK224 hb; replace HB := as_ (below_step bA hb); (try clear hb); (try clear hb2); (try clear hk); (try clear hi)) | ((with_reducible refine gate_dst (N := 4) rfl ?_); refine box_event (by rfl) (N := 4) (by rfl) (cs := #[.int .i64 0, .int .i64 0, .int .i64 0, .int .i64 0, .int .i64 0]) (t := 45) gS ?_; intro gb232 hg w46 hbox hb; have BK232 := as_ (hbox); have GW232 := gw hg bA; have GE232 := gw hg bA; have NB224_232 := nl BK224 hg; have NB232_224 := ng BK224 hg; replace BK224 := bb BK224 hb; replace HB := as_ (below_step bA hb); clear hb hbox hg; have hnb47 := NB232_224.out; have hnc47 := NB224_232.out; obtain ⟨hcz48_0, hcz48_1, hcz48_2, hcz48_3, hcz48_4⟩ := zc5 BK232; obtain ⟨hfz48_0, hfz48_1, hfz48_2, hfz48_3, hfz48_4⟩ := zf5 BK232; obtain ⟨hcz49_0, hcz49_1, hcz49_2, hcz49_3, hcz49_4⟩ := zc5 BK224; obtain ⟨hfz49_0, hfz49_1, hfz49_2, hfz49_3, hfz49_4⟩ := zf5 BK224))
  refine bodyPost_ret (results_ct rfl _ _ gb224 29 #[.int .i64 0, .int .i64 0, .int .i64 0, .int .i64 0, .int .i64 0] (0, 0) _ rfl (by refine bx ?_; refine blk_put (cs := #[.int .i64 0, .int .i64 0, .int .i64 0, .int .i64 0, .int .i64 0]) ?_ 4 _ rfl; refine bx ?_; refine blk_put (cs := #[.int .i64 0, .int .i64 0, .int .i64 0, .int .i64 0, .int .i64 0]) ?_ 3 _ rfl; refine bx ?_; refine blk_put (cs := #[.int .i64 0, .int .i64 0, .int .i64 0, .int .i64 0, .int .i64 0]) ?_ 2 _ rfl; refine bx ?_; refine blk_put (cs := #[.int .i64 0, .int .i64 0, .int .i64 0, .int .i64 0, .int .i64 0]) ?_ 1 _ rfl; refine bx ?_; refine blk_put (cs := #[.int .i64 0, .int .i64 0, .int .i64 0, .int .i64 0, .int .i64 0]) ?_ 0 _ rfl; refine bx ?_; refine blk_far ?_ NB224_232.out _; refine bx ?_; refine blk_far ?_ NB224_232.out _; refine bx ?_; refine blk_far ?_ NB224_232.out _; refine bx ?_; refine blk_far ?_ NB224_232.out _; refine bx ?_; refine blk_far ?_ NB224_232.out _; refine bx ?_; exact BK224.out) Try.underlying29 rfl (by kernel_rfl)) rfl ?_
  exact ⟨eW, by repeat (first | (with_reducible first | exact HB.out | apply below_alloc | apply pw_below_drewN | apply below_drew1 | refine below_set ?_ GE224.out | refine below_set ?_ GE232.out) | exact HB.out)⟩
 
 rw [if_pos c3] at H
 have c3b0 : (t231 == 0) = true := beq_iff_eq.mpr c3
 have c3b1 : (t231 != 0) = false := bne_eq_false_iff_eq.mpr c3
 clear c3
 replace H := bM H
 obtain ⟨⟨t233, t234⟩, A40, H⟩ := H
 replace H : ((withyref01_Read.f k t230 9).bind fun bt235 => ((withyref01_Read.f k t230 13).bind fun bt237 => ((withyref13_Encode.f k (wrap64 (t233)) (wrap64 (bt235.1)) t228 t226 (wrap64 (bt237.1))).bind fun bt240 => (if bt240.2 = 0 then (if bt240.1.toList = a0.toList then (some (wrap64 (t233), wrap64 (bt235.1), t228, t226, wrap64 (bt237.1), 0)) else (some (0, 0, 0, 0, 0, 3))) else (some (0, 0, 0, 0, 0, 3)))))) = some (r1, r2, r3, r4, r5, r6) := H
 have A4 := Aside0.mk A40
 clear A40
 replace H := bM H
 obtain ⟨⟨t235, t236⟩, A50, H⟩ := H
 replace H : ((withyref01_Read.f k t230 13).bind fun bt237 => ((withyref13_Encode.f k (wrap64 (t233)) (wrap64 (t235)) t228 t226 (wrap64 (bt237.1))).bind fun bt240 => (if bt240.2 = 0 then (if bt240.1.toList = a0.toList then (some (wrap64 (t233), wrap64 (t235), t228, t226, wrap64 (bt237.1), 0)) else (some (0, 0, 0, 0, 0, 3))) else (some (0, 0, 0, 0, 0, 3))))) = some (r1, r2, r3, r4, r5, r6) := H
 have A5 := Aside0.mk A50
 clear A50
 replace H := bM H
 obtain ⟨⟨t237, t238⟩, A60, H⟩ := H
 replace H : ((withyref13_Encode.f k (wrap64 (t233)) (wrap64 (t235)) t228 t226 (wrap64 (t237))).bind fun bt240 => (if bt240.2 = 0 then (if bt240.1.toList = a0.toList then (some (wrap64 (t233), wrap64 (t235), t228, t226, wrap64 (t237), 0)) else (some (0, 0, 0, 0, 0, 3))) else (some (0, 0, 0, 0, 0, 3)))) = some (r1, r2, r3, r4, r5, r6) := H
 have A6 := Aside0.mk A60
 clear A60
 replace H := bM H
 obtain ⟨⟨t240, t241⟩, A70, H⟩ := H
 replace H : (if t241 = 0 then (if t240.toList = a0.toList then (some (wrap64 (t233), wrap64 (t235), t228, t226, wrap64 (t237), 0)) else (some (0, 0, 0, 0, 0, 3))) else (some (0, 0, 0, 0, 0, 3))) = some (r1, r2, r3, r4, r5, r6) := H
 have A7 := Aside0.mk A70
 clear A70
 by_cases c8 : t241 = 0
 rotate_left
 ·rw [if_neg c8] at H
  have c8b0 : (t241 == 0) = false := beq_eq_false_iff_ne.mpr c8
  have c8b1 : (t241 != 0) = true := bne_iff_ne.mpr c8
  simp only [Option.some.injEq, Prod.mk.injEq] at H
  obtain ⟨rfl, rfl, rfl, rfl, rfl, rfl⟩ := H
  go_enter Try.func13, Try.ntmps13
  go_wp2_with (first | ((with_reducible refine gate_dst (N := 2) rfl ?_); refine box_event (by rfl) (N := 2) (by rfl) (cs := #[.int .i64 0, .int .i64 0, .int .i64 0, .int .i64 0, .int .i64 0]) (t := 29) gS ?_; intro gb224 hg w33 hbox hb; have BK224 := as_ (hbox); have GW224 := gw hg bA; have GE224 := gw hg bA; replace HB := as_ (below_step bA hb); clear hb hbox hg) | ((with_reducible refine gate_callee (f := 20) rfl ?_); refine goesL_ (some 18) rfl rfl Try.func20 (by kernel_rfl) rfl #[.string a0] rfl aO ?_; (with_reducible refine (withyref07_Open.calls k a0 t225 t226 t227 t228 t229 t230 t231 _ A2.out).mono ?_); rintro e w34 ⟨rfl, hb⟩; refine ⟨_, rfl, ?_⟩; replace BK224 := bb BK224 hb; replace HB := as_ (below_step bA hb); (try clear hb); (try clear hb2); (try clear hk); (try clear hi)) | ((with_reducible refine gate_dst (N := 4) rfl ?_); refine box_event (by rfl) (N := 4) (by rfl) (cs := #[.int .i64 0, .int .i64 0, .int .i64 0, .int .i64 0, .int .i64 0]) (t := 45) gS ?_; intro gb232 hg w35 hbox hb; have BK232 := as_ (hbox); have GW232 := gw hg bA; have GE232 := gw hg bA; have NB224_232 := nl BK224 hg; have NB232_224 := ng BK224 hg; replace BK224 := bb BK224 hb; replace HB := as_ (below_step bA hb); clear hb hbox hg; have hnb36 := NB232_224.out; have hnc36 := NB224_232.out; obtain ⟨hcz37_0, hcz37_1, hcz37_2, hcz37_3, hcz37_4⟩ := zc5 BK232; obtain ⟨hfz37_0, hfz37_1, hfz37_2, hfz37_3, hfz37_4⟩ := zf5 BK232) | ((with_reducible refine gate_callee (f := 21) rfl ?_); refine goesL_ (some 27) rfl rfl Try.func21 (by kernel_rfl) rfl #[.string t230, .int .i64 5] rfl aO ?_; (with_reducible refine (withyref01_Read.calls k t230 5 t233 t234 _ A4.out).mono ?_); rintro e w' ⟨rfl, ⟨nd, rfl⟩⟩; refine ⟨_, rfl, ?_⟩) | ((with_reducible refine gate_callee (f := 21) rfl ?_); refine goesL_ (some 32) rfl rfl Try.func21 (by kernel_rfl) rfl #[.string t230, .int .i64 9] rfl aO ?_; (with_reducible refine (withyref01_Read.calls k t230 9 t235 t236 _ A5.out).mono ?_); rintro e w' ⟨rfl, ⟨nd, rfl⟩⟩; refine ⟨_, rfl, ?_⟩) | ((with_reducible refine gate_callee (f := 21) rfl ?_); refine goesL_ (some 37) rfl rfl Try.func21 (by kernel_rfl) rfl #[.string t230, .int .i64 13] rfl aO ?_; (with_reducible refine (withyref01_Read.calls k t230 13 t237 t238 _ A6.out).mono ?_); rintro e w' ⟨rfl, ⟨nd, rfl⟩⟩; refine ⟨_, rfl, ?_⟩) | ((with_reducible refine gate_dst (N := 13) rfl ?_); refine box_event (by rfl) (N := 13) (by rfl) (cs := #[.int .i64 0, .int .i64 0, .int .i64 0, .int .i64 0, .int .i64 0]) (t := 29) gS ?_; intro gb239 hg w38 hbox hb; have n0_ := as_ (blk_below (g := gb224) (o := .cells #[.int .i64 0, .int .i64 0, .int .i64 0, .int .i64 0, .int .i64 0] 29 (0, 0)) (by refine bx ?_; refine blk_far ?_ NB224_232.out _; refine bx ?_; refine blk_far ?_ NB224_232.out _; refine bx ?_; refine blk_far ?_ NB224_232.out _; refine bx ?_; refine blk_far ?_ NB224_232.out _; refine bx ?_; refine blk_far ?_ NB224_232.out _; refine bx ?_; exact BK224.out) hb); have n1_ := as_ (blk_below (g := gb232) (o := .cells #[.int .i64 t225, .int .i64 t226, .int .i64 t227, .int .i64 t228, .int .i64 t229] 45 (0, 0)) (by refine bx ?_; refine blk_put (cs := #[.int .i64 t225, .int .i64 t226, .int .i64 t227, .int .i64 t228, .int .i64 0]) ?_ 4 _ rfl; refine bx ?_; refine blk_put (cs := #[.int .i64 t225, .int .i64 t226, .int .i64 t227, .int .i64 0, .int .i64 0]) ?_ 3 _ rfl; refine bx ?_; refine blk_put (cs := #[.int .i64 t225, .int .i64 t226, .int .i64 0, .int .i64 0, .int .i64 0]) ?_ 2 _ rfl; refine bx ?_; refine blk_put (cs := #[.int .i64 t225, .int .i64 0, .int .i64 0, .int .i64 0, .int .i64 0]) ?_ 1 _ rfl; refine bx ?_; refine blk_put (cs := #[.int .i64 0, .int .i64 0, .int .i64 0, .int .i64 0, .int .i64 0]) ?_ 0 _ rfl; refine bx ?_; exact BK232.out) hb); have n2_ := as_ (below_step bA hb); have n3_ := as_ (hbox); have n4_ := gw hg bA; have n5_ := gw hg bA; have n6_ := as_ ((by rw [hg]; exact Nat.ne_of_lt (blk_lt (g := gb224) (o := .cells #[.int .i64 0, .int .i64 0, .int .i64 0, .int .i64 0, .int .i64 0] 29 (0, 0)) (by refine bx ?_; refine blk_far ?_ NB224_232.out _; refine bx ?_; refine blk_far ?_ NB224_232.out _; refine bx ?_; refine blk_far ?_ NB224_232.out _; refine bx ?_; refine blk_far ?_ NB224_232.out _; refine bx ?_; refine blk_far ?_ NB224_232.out _; refine bx ?_; exact BK224.out)) : gb224 ≠ gb239)); have n7_ := as_ ((by rw [hg]; exact Nat.ne_of_gt (blk_lt (g := gb224) (o := .cells #[.int .i64 0, .int .i64 0, .int .i64 0, .int .i64 0, .int .i64 0] 29 (0, 0)) (by refine bx ?_; refine blk_far ?_ NB224_232.out _; refine bx ?_; refine blk_far ?_ NB224_232.out _; refine bx ?_; refine blk_far ?_ NB224_232.out _; refine bx ?_; refine blk_far ?_ NB224_232.out _; refine bx ?_; refine blk_far ?_ NB224_232.out _; refine bx ?_; exact BK224.out)) : gb239 ≠ gb224)); have n8_ := as_ ((by rw [hg]; exact Nat.ne_of_lt (blk_lt (g := gb232) (o := .cells #[.int .i64 t225, .int .i64 t226, .int .i64 t227, .int .i64 t228, .int .i64 t229] 45 (0, 0)) (by refine bx ?_; refine blk_put (cs := #[.int .i64 t225, .int .i64 t226, .int .i64 t227, .int .i64 t228, .int .i64 0]) ?_ 4 _ rfl; refine bx ?_; refine blk_put (cs := #[.int .i64 t225, .int .i64 t226, .int .i64 t227, .int .i64 0, .int .i64 0]) ?_ 3 _ rfl; refine bx ?_; refine blk_put (cs := #[.int .i64 t225, .int .i64 t226, .int .i64 0, .int .i64 0, .int .i64 0]) ?_ 2 _ rfl; refine bx ?_; refine blk_put (cs := #[.int .i64 t225, .int .i64 0, .int .i64 0, .int .i64 0, .int .i64 0]) ?_ 1 _ rfl; refine bx ?_; refine blk_put (cs := #[.int .i64 0, .int .i64 0, .int .i64 0, .int .i64 0, .int .i64 0]) ?_ 0 _ rfl; refine bx ?_; exact BK232.out)) : gb232 ≠ gb239)); have n9_ := as_ ((by rw [hg]; exact Nat.ne_of_gt (blk_lt (g := gb232) (o := .cells #[.int .i64 t225, .int .i64 t226, .int .i64 t227, .int .i64 t228, .int .i64 t229] 45 (0, 0)) (by refine bx ?_; refine blk_put (cs := #[.int .i64 t225, .int .i64 t226, .int .i64 t227, .int .i64 t228, .int .i64 0]) ?_ 4 _ rfl; refine bx ?_; refine blk_put (cs := #[.int .i64 t225, .int .i64 t226, .int .i64 t227, .int .i64 0, .int .i64 0]) ?_ 3 _ rfl; refine bx ?_; refine blk_put (cs := #[.int .i64 t225, .int .i64 t226, .int .i64 0, .int .i64 0, .int .i64 0]) ?_ 2 _ rfl; refine bx ?_; refine blk_put (cs := #[.int .i64 t225, .int .i64 0, .int .i64 0, .int .i64 0, .int .i64 0]) ?_ 1 _ rfl; refine bx ?_; refine blk_put (cs := #[.int .i64 0, .int .i64 0, .int .i64 0, .int .i64 0, .int .i64 0]) ?_ 0 _ rfl; refine bx ?_; exact BK232.out)) : gb239 ≠ gb232)); clear BK224; clear BK232; clear HB; have BK224 := n0_; have BK232 := n1_; have HB := n2_; have BK239 := n3_; have GW239 := n4_; have GE239 := n5_; have NB224_239 := n6_; have NB239_224 := n7_; have NB232_239 := n8_; have NB239_232 := n9_; clear n0_ n1_ n2_ n3_ n4_ n5_ n6_ n7_ n8_ n9_; clear hb hbox hg; have hnb39 := NB239_224.out; have hnc39 := NB224_239.out; have hnb40 := NB239_232.out; have hnc40 := NB232_239.out; obtain ⟨hcz41_0, hcz41_1, hcz41_2, hcz41_3, hcz41_4⟩ := zc5 BK239; obtain ⟨hfz41_0, hfz41_1, hfz41_2, hfz41_3, hfz41_4⟩ := zf5 BK239) | ((with_reducible refine gate_callee (f := 10) rfl ?_); refine goesL_ (some 53) rfl rfl Try.func10 (by kernel_rfl) rfl #[.agg #[.int .i64 (wrap64 (t233)), .int .i64 (wrap64 (t235)), .int .i64 t228, .int .i64 t226, .int .i64 (wrap64 (t237))]] rfl aO ?_; (first | (with_reducible refine (withyref13_Encode.calls k (wrap64 (t233)) (wrap64 (t235)) t228 t226 (wrap64 (t237)) t240 t241 _ A7.out).mono ?_) | (with_reducible refine (withyref13_Encode.calls k (t233) (t235) t228 t226 (t237) t240 t241 _ (by have e_ := A7.out; rwa [(by unfold wrap64; omega : wrap64 (t233) = (t233)), (by unfold wrap64; omega : wrap64 (t235) = (t235)), (by unfold wrap64; omega : wrap64 (t237) = (t237))] at e_)).mono ?_)); rintro e w42 ⟨rfl, hb⟩; refine ⟨_, rfl, ?_⟩; have n0_ := as_ (blk_below (g := gb224) (o := .cells #[.int .i64 0, .int .i64 0, .int .i64 0, .int .i64 0, .int .i64 0] 29 (0, 0)) (by refine bx ?_; refine blk_far ?_ NB224_239.out _; refine bx ?_; refine blk_far ?_ NB224_239.out _; refine bx ?_; refine blk_far ?_ NB224_239.out _; refine bx ?_; refine blk_far ?_ NB224_239.out _; refine bx ?_; refine blk_far ?_ NB224_239.out _; refine bx ?_; exact BK224.out) hb); have n1_ := as_ (blk_below (g := gb232) (o := .cells #[.int .i64 t225, .int .i64 t226, .int .i64 t227, .int .i64 t228, .int .i64 t229] 45 (0, 0)) (by refine bx ?_; refine blk_far ?_ NB232_239.out _; refine bx ?_; refine blk_far ?_ NB232_239.out _; refine bx ?_; refine blk_far ?_ NB232_239.out _; refine bx ?_; refine blk_far ?_ NB232_239.out _; refine bx ?_; refine blk_far ?_ NB232_239.out _; refine bx ?_; exact BK232.out) hb); have n2_ := as_ (blk_below (g := gb239) (o := .cells #[.int .i64 (wrap64 (t233)), .int .i64 (wrap64 (t235)), .int .i64 t228, .int .i64 t226, .int .i64 (wrap64 (t237))] 29 (0, 0)) (by refine bx ?_; refine blk_put (cs := #[.int .i64 (wrap64 (t233)), .int .i64 (wrap64 (t235)), .int .i64 t228, .int .i64 t226, .int .i64 0]) ?_ 4 _ rfl; refine bx ?_; refine blk_put (cs := #[.int .i64 (wrap64 (t233)), .int .i64 (wrap64 (t235)), .int .i64 t228, .int .i64 0, .int .i64 0]) ?_ 3 _ rfl; refine bx ?_; refine blk_put (cs := #[.int .i64 (wrap64 (t233)), .int .i64 (wrap64 (t235)), .int .i64 0, .int .i64 0, .int .i64 0]) ?_ 2 _ rfl; refine bx ?_; refine blk_put (cs := #[.int .i64 (wrap64 (t233)), .int .i64 0, .int .i64 0, .int .i64 0, .int .i64 0]) ?_ 1 _ rfl; refine bx ?_; refine blk_put (cs := #[.int .i64 0, .int .i64 0, .int .i64 0, .int .i64 0, .int .i64 0]) ?_ 0 _ rfl; refine bx ?_; exact BK239.out) hb); have n3_ := as_ (below_step bA hb); clear BK224; clear BK232; clear BK239; clear HB; have BK224 := n0_; have BK232 := n1_; have BK239 := n2_; have HB := n3_; clear n0_ n1_ n2_ n3_; (try clear hb); (try clear hb2); (try clear hk); (try clear hi); obtain ⟨hcz43_0, hcz43_1, hcz43_2, hcz43_3, hcz43_4⟩ := zc5 BK224; obtain ⟨hfz43_0, hfz43_1, hfz43_2, hfz43_3, hfz43_4⟩ := zf5 BK224))
  refine bodyPost_ret (results_ct rfl _ _ gb224 29 #[.int .i64 0, .int .i64 0, .int .i64 0, .int .i64 0, .int .i64 0] (0, 0) _ rfl (by refine bx ?_; refine blk_put (cs := #[.int .i64 0, .int .i64 0, .int .i64 0, .int .i64 0, .int .i64 0]) ?_ 4 _ rfl; refine bx ?_; refine blk_put (cs := #[.int .i64 0, .int .i64 0, .int .i64 0, .int .i64 0, .int .i64 0]) ?_ 3 _ rfl; refine bx ?_; refine blk_put (cs := #[.int .i64 0, .int .i64 0, .int .i64 0, .int .i64 0, .int .i64 0]) ?_ 2 _ rfl; refine bx ?_; refine blk_put (cs := #[.int .i64 0, .int .i64 0, .int .i64 0, .int .i64 0, .int .i64 0]) ?_ 1 _ rfl; refine bx ?_; refine blk_put (cs := #[.int .i64 0, .int .i64 0, .int .i64 0, .int .i64 0, .int .i64 0]) ?_ 0 _ rfl; refine bx ?_; exact BK224.out) Try.underlying29 rfl (by kernel_rfl)) rfl ?_
  exact ⟨eW, by repeat (first | (with_reducible first | exact HB.out | apply below_alloc | apply pw_below_drewN | apply below_drew1 | refine below_set ?_ GE224.out | refine below_set ?_ GE232.out | refine below_set ?_ GE239.out) | exact HB.out)⟩
 rw [if_pos c8] at H
 have c8b0 : (t241 == 0) = true := beq_iff_eq.mpr c8
 have c8b1 : (t241 != 0) = false := bne_eq_false_iff_eq.mpr c8
 clear c8
 by_cases c9 : t240.toList = a0.toList
 rotate_left
 ·rw [if_neg c9] at H
  have c9b0 : (t240.toList == a0.toList) = false := beq_eq_false_iff_ne.mpr c9
  have c9b1 : (t240.toList != a0.toList) = true := bne_iff_ne.mpr c9
  simp only [Option.some.injEq, Prod.mk.injEq] at H
  obtain ⟨rfl, rfl, rfl, rfl, rfl, rfl⟩ := H
  go_enter Try.func13, Try.ntmps13
  go_wp2_with (first | ((with_reducible refine gate_dst (N := 2) rfl ?_); refine box_event (by rfl) (N := 2) (by rfl) (cs := #[.int .i64 0, .int .i64 0, .int .i64 0, .int .i64 0, .int .i64 0]) (t := 29) gS ?_; intro gb224 hg w22 hbox hb; have BK224 := as_ (hbox); have GW224 := gw hg bA; have GE224 := gw hg bA; replace HB := as_ (below_step bA hb); clear hb hbox hg) | ((with_reducible refine gate_callee (f := 20) rfl ?_); refine goesL_ (some 18) rfl rfl Try.func20 (by kernel_rfl) rfl #[.string a0] rfl aO ?_; (with_reducible refine (withyref07_Open.calls k a0 t225 t226 t227 t228 t229 t230 t231 _ A2.out).mono ?_); rintro e w23 ⟨rfl, hb⟩; refine ⟨_, rfl, ?_⟩; replace BK224 := bb BK224 hb; replace HB := as_ (below_step bA hb); (try clear hb); (try clear hb2); (try clear hk); (try clear hi)) | ((with_reducible refine gate_dst (N := 4) rfl ?_); refine box_event (by rfl) (N := 4) (by rfl) (cs := #[.int .i64 0, .int .i64 0, .int .i64 0, .int .i64 0, .int .i64 0]) (t := 45) gS ?_; intro gb232 hg w24 hbox hb; have BK232 := as_ (hbox); have GW232 := gw hg bA; have GE232 := gw hg bA; have NB224_232 := nl BK224 hg; have NB232_224 := ng BK224 hg; replace BK224 := bb BK224 hb; replace HB := as_ (below_step bA hb); clear hb hbox hg; have hnb25 := NB232_224.out; have hnc25 := NB224_232.out; obtain ⟨hcz26_0, hcz26_1, hcz26_2, hcz26_3, hcz26_4⟩ := zc5 BK232; obtain ⟨hfz26_0, hfz26_1, hfz26_2, hfz26_3, hfz26_4⟩ := zf5 BK232) | ((with_reducible refine gate_callee (f := 21) rfl ?_); refine goesL_ (some 27) rfl rfl Try.func21 (by kernel_rfl) rfl #[.string t230, .int .i64 5] rfl aO ?_; (with_reducible refine (withyref01_Read.calls k t230 5 t233 t234 _ A4.out).mono ?_); rintro e w' ⟨rfl, ⟨nd, rfl⟩⟩; refine ⟨_, rfl, ?_⟩) | ((with_reducible refine gate_callee (f := 21) rfl ?_); refine goesL_ (some 32) rfl rfl Try.func21 (by kernel_rfl) rfl #[.string t230, .int .i64 9] rfl aO ?_; (with_reducible refine (withyref01_Read.calls k t230 9 t235 t236 _ A5.out).mono ?_); rintro e w' ⟨rfl, ⟨nd, rfl⟩⟩; refine ⟨_, rfl, ?_⟩) | ((with_reducible refine gate_callee (f := 21) rfl ?_); refine goesL_ (some 37) rfl rfl Try.func21 (by kernel_rfl) rfl #[.string t230, .int .i64 13] rfl aO ?_; (with_reducible refine (withyref01_Read.calls k t230 13 t237 t238 _ A6.out).mono ?_); rintro e w' ⟨rfl, ⟨nd, rfl⟩⟩; refine ⟨_, rfl, ?_⟩) | ((with_reducible refine gate_dst (N := 13) rfl ?_); refine box_event (by rfl) (N := 13) (by rfl) (cs := #[.int .i64 0, .int .i64 0, .int .i64 0, .int .i64 0, .int .i64 0]) (t := 29) gS ?_; intro gb239 hg w27 hbox hb; have n0_ := as_ (blk_below (g := gb224) (o := .cells #[.int .i64 0, .int .i64 0, .int .i64 0, .int .i64 0, .int .i64 0] 29 (0, 0)) (by refine bx ?_; refine blk_far ?_ NB224_232.out _; refine bx ?_; refine blk_far ?_ NB224_232.out _; refine bx ?_; refine blk_far ?_ NB224_232.out _; refine bx ?_; refine blk_far ?_ NB224_232.out _; refine bx ?_; refine blk_far ?_ NB224_232.out _; refine bx ?_; exact BK224.out) hb); have n1_ := as_ (blk_below (g := gb232) (o := .cells #[.int .i64 t225, .int .i64 t226, .int .i64 t227, .int .i64 t228, .int .i64 t229] 45 (0, 0)) (by refine bx ?_; refine blk_put (cs := #[.int .i64 t225, .int .i64 t226, .int .i64 t227, .int .i64 t228, .int .i64 0]) ?_ 4 _ rfl; refine bx ?_; refine blk_put (cs := #[.int .i64 t225, .int .i64 t226, .int .i64 t227, .int .i64 0, .int .i64 0]) ?_ 3 _ rfl; refine bx ?_; refine blk_put (cs := #[.int .i64 t225, .int .i64 t226, .int .i64 0, .int .i64 0, .int .i64 0]) ?_ 2 _ rfl; refine bx ?_; refine blk_put (cs := #[.int .i64 t225, .int .i64 0, .int .i64 0, .int .i64 0, .int .i64 0]) ?_ 1 _ rfl; refine bx ?_; refine blk_put (cs := #[.int .i64 0, .int .i64 0, .int .i64 0, .int .i64 0, .int .i64 0]) ?_ 0 _ rfl; refine bx ?_; exact BK232.out) hb); have n2_ := as_ (below_step bA hb); have n3_ := as_ (hbox); have n4_ := gw hg bA; have n5_ := gw hg bA; have n6_ := as_ ((by rw [hg]; exact Nat.ne_of_lt (blk_lt (g := gb224) (o := .cells #[.int .i64 0, .int .i64 0, .int .i64 0, .int .i64 0, .int .i64 0] 29 (0, 0)) (by refine bx ?_; refine blk_far ?_ NB224_232.out _; refine bx ?_; refine blk_far ?_ NB224_232.out _; refine bx ?_; refine blk_far ?_ NB224_232.out _; refine bx ?_; refine blk_far ?_ NB224_232.out _; refine bx ?_; refine blk_far ?_ NB224_232.out _; refine bx ?_; exact BK224.out)) : gb224 ≠ gb239)); have n7_ := as_ ((by rw [hg]; exact Nat.ne_of_gt (blk_lt (g := gb224) (o := .cells #[.int .i64 0, .int .i64 0, .int .i64 0, .int .i64 0, .int .i64 0] 29 (0, 0)) (by refine bx ?_; refine blk_far ?_ NB224_232.out _; refine bx ?_; refine blk_far ?_ NB224_232.out _; refine bx ?_; refine blk_far ?_ NB224_232.out _; refine bx ?_; refine blk_far ?_ NB224_232.out _; refine bx ?_; refine blk_far ?_ NB224_232.out _; refine bx ?_; exact BK224.out)) : gb239 ≠ gb224)); have n8_ := as_ ((by rw [hg]; exact Nat.ne_of_lt (blk_lt (g := gb232) (o := .cells #[.int .i64 t225, .int .i64 t226, .int .i64 t227, .int .i64 t228, .int .i64 t229] 45 (0, 0)) (by refine bx ?_; refine blk_put (cs := #[.int .i64 t225, .int .i64 t226, .int .i64 t227, .int .i64 t228, .int .i64 0]) ?_ 4 _ rfl; refine bx ?_; refine blk_put (cs := #[.int .i64 t225, .int .i64 t226, .int .i64 t227, .int .i64 0, .int .i64 0]) ?_ 3 _ rfl; refine bx ?_; refine blk_put (cs := #[.int .i64 t225, .int .i64 t226, .int .i64 0, .int .i64 0, .int .i64 0]) ?_ 2 _ rfl; refine bx ?_; refine blk_put (cs := #[.int .i64 t225, .int .i64 0, .int .i64 0, .int .i64 0, .int .i64 0]) ?_ 1 _ rfl; refine bx ?_; refine blk_put (cs := #[.int .i64 0, .int .i64 0, .int .i64 0, .int .i64 0, .int .i64 0]) ?_ 0 _ rfl; refine bx ?_; exact BK232.out)) : gb232 ≠ gb239)); have n9_ := as_ ((by rw [hg]; exact Nat.ne_of_gt (blk_lt (g := gb232) (o := .cells #[.int .i64 t225, .int .i64 t226, .int .i64 t227, .int .i64 t228, .int .i64 t229] 45 (0, 0)) (by refine bx ?_; refine blk_put (cs := #[.int .i64 t225, .int .i64 t226, .int .i64 t227, .int .i64 t228, .int .i64 0]) ?_ 4 _ rfl; refine bx ?_; refine blk_put (cs := #[.int .i64 t225, .int .i64 t226, .int .i64 t227, .int .i64 0, .int .i64 0]) ?_ 3 _ rfl; refine bx ?_; refine blk_put (cs := #[.int .i64 t225, .int .i64 t226, .int .i64 0, .int .i64 0, .int .i64 0]) ?_ 2 _ rfl; refine bx ?_; refine blk_put (cs := #[.int .i64 t225, .int .i64 0, .int .i64 0, .int .i64 0, .int .i64 0]) ?_ 1 _ rfl; refine bx ?_; refine blk_put (cs := #[.int .i64 0, .int .i64 0, .int .i64 0, .int .i64 0, .int .i64 0]) ?_ 0 _ rfl; refine bx ?_; exact BK232.out)) : gb239 ≠ gb232)); clear BK224; clear BK232; clear HB; have BK224 := n0_; have BK232 := n1_; have HB := n2_; have BK239 := n3_; have GW239 := n4_; have GE239 := n5_; have NB224_239 := n6_; have NB239_224 := n7_; have NB232_239 := n8_; have NB239_232 := n9_; clear n0_ n1_ n2_ n3_ n4_ n5_ n6_ n7_ n8_ n9_; clear hb hbox hg; have hnb28 := NB239_224.out; have hnc28 := NB224_239.out; have hnb29 := NB239_232.out; have hnc29 := NB232_239.out; obtain ⟨hcz30_0, hcz30_1, hcz30_2, hcz30_3, hcz30_4⟩ := zc5 BK239; obtain ⟨hfz30_0, hfz30_1, hfz30_2, hfz30_3, hfz30_4⟩ := zf5 BK239) | ((with_reducible refine gate_callee (f := 10) rfl ?_); refine goesL_ (some 53) rfl rfl Try.func10 (by kernel_rfl) rfl #[.agg #[.int .i64 (wrap64 (t233)), .int .i64 (wrap64 (t235)), .int .i64 t228, .int .i64 t226, .int .i64 (wrap64 (t237))]] rfl aO ?_; (first | (with_reducible refine (withyref13_Encode.calls k (wrap64 (t233)) (wrap64 (t235)) t228 t226 (wrap64 (t237)) t240 t241 _ A7.out).mono ?_) | (with_reducible refine (withyref13_Encode.calls k (t233) (t235) t228 t226 (t237) t240 t241 _ (by have e_ := A7.out; rwa [(by unfold wrap64; omega : wrap64 (t233) = (t233)), (by unfold wrap64; omega : wrap64 (t235) = (t235)), (by unfold wrap64; omega : wrap64 (t237) = (t237))] at e_)).mono ?_)); rintro e w31 ⟨rfl, hb⟩; refine ⟨_, rfl, ?_⟩; have n0_ := as_ (blk_below (g := gb224) (o := .cells #[.int .i64 0, .int .i64 0, .int .i64 0, .int .i64 0, .int .i64 0] 29 (0, 0)) (by refine bx ?_; refine blk_far ?_ NB224_239.out _; refine bx ?_; refine blk_far ?_ NB224_239.out _; refine bx ?_; refine blk_far ?_ NB224_239.out _; refine bx ?_; refine blk_far ?_ NB224_239.out _; refine bx ?_; refine blk_far ?_ NB224_239.out _; refine bx ?_; exact BK224.out) hb); have n1_ := as_ (blk_below (g := gb232) (o := .cells #[.int .i64 t225, .int .i64 t226, .int .i64 t227, .int .i64 t228, .int .i64 t229] 45 (0, 0)) (by refine bx ?_; refine blk_far ?_ NB232_239.out _; refine bx ?_; refine blk_far ?_ NB232_239.out _; refine bx ?_; refine blk_far ?_ NB232_239.out _; refine bx ?_; refine blk_far ?_ NB232_239.out _; refine bx ?_; refine blk_far ?_ NB232_239.out _; refine bx ?_; exact BK232.out) hb); have n2_ := as_ (blk_below (g := gb239) (o := .cells #[.int .i64 (wrap64 (t233)), .int .i64 (wrap64 (t235)), .int .i64 t228, .int .i64 t226, .int .i64 (wrap64 (t237))] 29 (0, 0)) (by refine bx ?_; refine blk_put (cs := #[.int .i64 (wrap64 (t233)), .int .i64 (wrap64 (t235)), .int .i64 t228, .int .i64 t226, .int .i64 0]) ?_ 4 _ rfl; refine bx ?_; refine blk_put (cs := #[.int .i64 (wrap64 (t233)), .int .i64 (wrap64 (t235)), .int .i64 t228, .int .i64 0, .int .i64 0]) ?_ 3 _ rfl; refine bx ?_; refine blk_put (cs := #[.int .i64 (wrap64 (t233)), .int .i64 (wrap64 (t235)), .int .i64 0, .int .i64 0, .int .i64 0]) ?_ 2 _ rfl; refine bx ?_; refine blk_put (cs := #[.int .i64 (wrap64 (t233)), .int .i64 0, .int .i64 0, .int .i64 0, .int .i64 0]) ?_ 1 _ rfl; refine bx ?_; refine blk_put (cs := #[.int .i64 0, .int .i64 0, .int .i64 0, .int .i64 0, .int .i64 0]) ?_ 0 _ rfl; refine bx ?_; exact BK239.out) hb); have n3_ := as_ (below_step bA hb); clear BK224; clear BK232; clear BK239; clear HB; have BK224 := n0_; have BK232 := n1_; have BK239 := n2_; have HB := n3_; clear n0_ n1_ n2_ n3_; (try clear hb); (try clear hb2); (try clear hk); (try clear hi); obtain ⟨hcz32_0, hcz32_1, hcz32_2, hcz32_3, hcz32_4⟩ := zc5 BK224; obtain ⟨hfz32_0, hfz32_1, hfz32_2, hfz32_3, hfz32_4⟩ := zf5 BK224))
  refine bodyPost_ret (results_ct rfl _ _ gb224 29 #[.int .i64 0, .int .i64 0, .int .i64 0, .int .i64 0, .int .i64 0] (0, 0) _ rfl (by refine bx ?_; refine blk_put (cs := #[.int .i64 0, .int .i64 0, .int .i64 0, .int .i64 0, .int .i64 0]) ?_ 4 _ rfl; refine bx ?_; refine blk_put (cs := #[.int .i64 0, .int .i64 0, .int .i64 0, .int .i64 0, .int .i64 0]) ?_ 3 _ rfl; refine bx ?_; refine blk_put (cs := #[.int .i64 0, .int .i64 0, .int .i64 0, .int .i64 0, .int .i64 0]) ?_ 2 _ rfl; refine bx ?_; refine blk_put (cs := #[.int .i64 0, .int .i64 0, .int .i64 0, .int .i64 0, .int .i64 0]) ?_ 1 _ rfl; refine bx ?_; refine blk_put (cs := #[.int .i64 0, .int .i64 0, .int .i64 0, .int .i64 0, .int .i64 0]) ?_ 0 _ rfl; refine bx ?_; exact BK224.out) Try.underlying29 rfl (by kernel_rfl)) rfl ?_
  exact ⟨eW, by repeat (first | (with_reducible first | exact HB.out | apply below_alloc | apply pw_below_drewN | apply below_drew1 | refine below_set ?_ GE224.out | refine below_set ?_ GE232.out | refine below_set ?_ GE239.out) | exact HB.out)⟩
 rw [if_pos c9] at H
 have c9b0 : (t240.toList == a0.toList) = true := beq_iff_eq.mpr c9
 have c9b1 : (t240.toList != a0.toList) = false := bne_eq_false_iff_eq.mpr c9
 clear c9
 simp only [Option.some.injEq, Prod.mk.injEq] at H
 obtain ⟨rfl, rfl, rfl, rfl, rfl, rfl⟩ := H
 go_enter Try.func13, Try.ntmps13
 go_wp2_with (first | ((with_reducible refine gate_dst (N := 2) rfl ?_); refine box_event (by rfl) (N := 2) (by rfl) (cs := #[.int .i64 0, .int .i64 0, .int .i64 0, .int .i64 0, .int .i64 0]) (t := 29) gS ?_; intro gb224 hg w10 hbox hb; have BK224 := as_ (hbox); have GW224 := gw hg bA; have GE224 := gw hg bA; replace HB := as_ (below_step bA hb); clear hb hbox hg) | ((with_reducible refine gate_callee (f := 20) rfl ?_); refine goesL_ (some 18) rfl rfl Try.func20 (by kernel_rfl) rfl #[.string a0] rfl aO ?_; (with_reducible refine (withyref07_Open.calls k a0 t225 t226 t227 t228 t229 t230 t231 _ A2.out).mono ?_); rintro e w11 ⟨rfl, hb⟩; refine ⟨_, rfl, ?_⟩; replace BK224 := bb BK224 hb; replace HB := as_ (below_step bA hb); (try clear hb); (try clear hb2); (try clear hk); (try clear hi)) | ((with_reducible refine gate_dst (N := 4) rfl ?_); refine box_event (by rfl) (N := 4) (by rfl) (cs := #[.int .i64 0, .int .i64 0, .int .i64 0, .int .i64 0, .int .i64 0]) (t := 45) gS ?_; intro gb232 hg w12 hbox hb; have BK232 := as_ (hbox); have GW232 := gw hg bA; have GE232 := gw hg bA; have NB224_232 := nl BK224 hg; have NB232_224 := ng BK224 hg; replace BK224 := bb BK224 hb; replace HB := as_ (below_step bA hb); clear hb hbox hg; have hnb13 := NB232_224.out; have hnc13 := NB224_232.out; obtain ⟨hcz14_0, hcz14_1, hcz14_2, hcz14_3, hcz14_4⟩ := zc5 BK232; obtain ⟨hfz14_0, hfz14_1, hfz14_2, hfz14_3, hfz14_4⟩ := zf5 BK232) | ((with_reducible refine gate_callee (f := 21) rfl ?_); refine goesL_ (some 27) rfl rfl Try.func21 (by kernel_rfl) rfl #[.string t230, .int .i64 5] rfl aO ?_; (with_reducible refine (withyref01_Read.calls k t230 5 t233 t234 _ A4.out).mono ?_); rintro e w' ⟨rfl, ⟨nd, rfl⟩⟩; refine ⟨_, rfl, ?_⟩) | ((with_reducible refine gate_callee (f := 21) rfl ?_); refine goesL_ (some 32) rfl rfl Try.func21 (by kernel_rfl) rfl #[.string t230, .int .i64 9] rfl aO ?_; (with_reducible refine (withyref01_Read.calls k t230 9 t235 t236 _ A5.out).mono ?_); rintro e w' ⟨rfl, ⟨nd, rfl⟩⟩; refine ⟨_, rfl, ?_⟩) | ((with_reducible refine gate_callee (f := 21) rfl ?_); refine goesL_ (some 37) rfl rfl Try.func21 (by kernel_rfl) rfl #[.string t230, .int .i64 13] rfl aO ?_; (with_reducible refine (withyref01_Read.calls k t230 13 t237 t238 _ A6.out).mono ?_); rintro e w' ⟨rfl, ⟨nd, rfl⟩⟩; refine ⟨_, rfl, ?_⟩) | ((with_reducible refine gate_dst (N := 13) rfl ?_); refine box_event (by rfl) (N := 13) (by rfl) (cs := #[.int .i64 0, .int .i64 0, .int .i64 0, .int .i64 0, .int .i64 0]) (t := 29) gS ?_; intro gb239 hg w15 hbox hb; have n0_ := as_ (blk_below (g := gb224) (o := .cells #[.int .i64 0, .int .i64 0, .int .i64 0, .int .i64 0, .int .i64 0] 29 (0, 0)) (by refine bx ?_; refine blk_far ?_ NB224_232.out _; refine bx ?_; refine blk_far ?_ NB224_232.out _; refine bx ?_; refine blk_far ?_ NB224_232.out _; refine bx ?_; refine blk_far ?_ NB224_232.out _; refine bx ?_; refine blk_far ?_ NB224_232.out _; refine bx ?_; exact BK224.out) hb); have n1_ := as_ (blk_below (g := gb232) (o := .cells #[.int .i64 t225, .int .i64 t226, .int .i64 t227, .int .i64 t228, .int .i64 t229] 45 (0, 0)) (by refine bx ?_; refine blk_put (cs := #[.int .i64 t225, .int .i64 t226, .int .i64 t227, .int .i64 t228, .int .i64 0]) ?_ 4 _ rfl; refine bx ?_; refine blk_put (cs := #[.int .i64 t225, .int .i64 t226, .int .i64 t227, .int .i64 0, .int .i64 0]) ?_ 3 _ rfl; refine bx ?_; refine blk_put (cs := #[.int .i64 t225, .int .i64 t226, .int .i64 0, .int .i64 0, .int .i64 0]) ?_ 2 _ rfl; refine bx ?_; refine blk_put (cs := #[.int .i64 t225, .int .i64 0, .int .i64 0, .int .i64 0, .int .i64 0]) ?_ 1 _ rfl; refine bx ?_; refine blk_put (cs := #[.int .i64 0, .int .i64 0, .int .i64 0, .int .i64 0, .int .i64 0]) ?_ 0 _ rfl; refine bx ?_; exact BK232.out) hb); have n2_ := as_ (below_step bA hb); have n3_ := as_ (hbox); have n4_ := gw hg bA; have n5_ := gw hg bA; have n6_ := as_ ((by rw [hg]; exact Nat.ne_of_lt (blk_lt (g := gb224) (o := .cells #[.int .i64 0, .int .i64 0, .int .i64 0, .int .i64 0, .int .i64 0] 29 (0, 0)) (by refine bx ?_; refine blk_far ?_ NB224_232.out _; refine bx ?_; refine blk_far ?_ NB224_232.out _; refine bx ?_; refine blk_far ?_ NB224_232.out _; refine bx ?_; refine blk_far ?_ NB224_232.out _; refine bx ?_; refine blk_far ?_ NB224_232.out _; refine bx ?_; exact BK224.out)) : gb224 ≠ gb239)); have n7_ := as_ ((by rw [hg]; exact Nat.ne_of_gt (blk_lt (g := gb224) (o := .cells #[.int .i64 0, .int .i64 0, .int .i64 0, .int .i64 0, .int .i64 0] 29 (0, 0)) (by refine bx ?_; refine blk_far ?_ NB224_232.out _; refine bx ?_; refine blk_far ?_ NB224_232.out _; refine bx ?_; refine blk_far ?_ NB224_232.out _; refine bx ?_; refine blk_far ?_ NB224_232.out _; refine bx ?_; refine blk_far ?_ NB224_232.out _; refine bx ?_; exact BK224.out)) : gb239 ≠ gb224)); have n8_ := as_ ((by rw [hg]; exact Nat.ne_of_lt (blk_lt (g := gb232) (o := .cells #[.int .i64 t225, .int .i64 t226, .int .i64 t227, .int .i64 t228, .int .i64 t229] 45 (0, 0)) (by refine bx ?_; refine blk_put (cs := #[.int .i64 t225, .int .i64 t226, .int .i64 t227, .int .i64 t228, .int .i64 0]) ?_ 4 _ rfl; refine bx ?_; refine blk_put (cs := #[.int .i64 t225, .int .i64 t226, .int .i64 t227, .int .i64 0, .int .i64 0]) ?_ 3 _ rfl; refine bx ?_; refine blk_put (cs := #[.int .i64 t225, .int .i64 t226, .int .i64 0, .int .i64 0, .int .i64 0]) ?_ 2 _ rfl; refine bx ?_; refine blk_put (cs := #[.int .i64 t225, .int .i64 0, .int .i64 0, .int .i64 0, .int .i64 0]) ?_ 1 _ rfl; refine bx ?_; refine blk_put (cs := #[.int .i64 0, .int .i64 0, .int .i64 0, .int .i64 0, .int .i64 0]) ?_ 0 _ rfl; refine bx ?_; exact BK232.out)) : gb232 ≠ gb239)); have n9_ := as_ ((by rw [hg]; exact Nat.ne_of_gt (blk_lt (g := gb232) (o := .cells #[.int .i64 t225, .int .i64 t226, .int .i64 t227, .int .i64 t228, .int .i64 t229] 45 (0, 0)) (by refine bx ?_; refine blk_put (cs := #[.int .i64 t225, .int .i64 t226, .int .i64 t227, .int .i64 t228, .int .i64 0]) ?_ 4 _ rfl; refine bx ?_; refine blk_put (cs := #[.int .i64 t225, .int .i64 t226, .int .i64 t227, .int .i64 0, .int .i64 0]) ?_ 3 _ rfl; refine bx ?_; refine blk_put (cs := #[.int .i64 t225, .int .i64 t226, .int .i64 0, .int .i64 0, .int .i64 0]) ?_ 2 _ rfl; refine bx ?_; refine blk_put (cs := #[.int .i64 t225, .int .i64 0, .int .i64 0, .int .i64 0, .int .i64 0]) ?_ 1 _ rfl; refine bx ?_; refine blk_put (cs := #[.int .i64 0, .int .i64 0, .int .i64 0, .int .i64 0, .int .i64 0]) ?_ 0 _ rfl; refine bx ?_; exact BK232.out)) : gb239 ≠ gb232)); clear BK224; clear BK232; clear HB; have BK224 := n0_; have BK232 := n1_; have HB := n2_; have BK239 := n3_; have GW239 := n4_; have GE239 := n5_; have NB224_239 := n6_; have NB239_224 := n7_; have NB232_239 := n8_; have NB239_232 := n9_; clear n0_ n1_ n2_ n3_ n4_ n5_ n6_ n7_ n8_ n9_; clear hb hbox hg; have hnb16 := NB239_224.out; have hnc16 := NB224_239.out; have hnb17 := NB239_232.out; have hnc17 := NB232_239.out; obtain ⟨hcz18_0, hcz18_1, hcz18_2, hcz18_3, hcz18_4⟩ := zc5 BK239; obtain ⟨hfz18_0, hfz18_1, hfz18_2, hfz18_3, hfz18_4⟩ := zf5 BK239) | ((with_reducible refine gate_callee (f := 10) rfl ?_); refine goesL_ (some 53) rfl rfl Try.func10 (by kernel_rfl) rfl #[.agg #[.int .i64 (wrap64 (t233)), .int .i64 (wrap64 (t235)), .int .i64 t228, .int .i64 t226, .int .i64 (wrap64 (t237))]] rfl aO ?_; (first | (with_reducible refine (withyref13_Encode.calls k (wrap64 (t233)) (wrap64 (t235)) t228 t226 (wrap64 (t237)) t240 t241 _ A7.out).mono ?_) | (with_reducible refine (withyref13_Encode.calls k (t233) (t235) t228 t226 (t237) t240 t241 _ (by have e_ := A7.out; rwa [(by unfold wrap64; omega : wrap64 (t233) = (t233)), (by unfold wrap64; omega : wrap64 (t235) = (t235)), (by unfold wrap64; omega : wrap64 (t237) = (t237))] at e_)).mono ?_)); rintro e w19 ⟨rfl, hb⟩; refine ⟨_, rfl, ?_⟩; have n0_ := as_ (blk_below (g := gb224) (o := .cells #[.int .i64 0, .int .i64 0, .int .i64 0, .int .i64 0, .int .i64 0] 29 (0, 0)) (by refine bx ?_; refine blk_far ?_ NB224_239.out _; refine bx ?_; refine blk_far ?_ NB224_239.out _; refine bx ?_; refine blk_far ?_ NB224_239.out _; refine bx ?_; refine blk_far ?_ NB224_239.out _; refine bx ?_; refine blk_far ?_ NB224_239.out _; refine bx ?_; exact BK224.out) hb); have n1_ := as_ (blk_below (g := gb232) (o := .cells #[.int .i64 t225, .int .i64 t226, .int .i64 t227, .int .i64 t228, .int .i64 t229] 45 (0, 0)) (by refine bx ?_; refine blk_far ?_ NB232_239.out _; refine bx ?_; refine blk_far ?_ NB232_239.out _; refine bx ?_; refine blk_far ?_ NB232_239.out _; refine bx ?_; refine blk_far ?_ NB232_239.out _; refine bx ?_; refine blk_far ?_ NB232_239.out _; refine bx ?_; exact BK232.out) hb); have n2_ := as_ (blk_below (g := gb239) (o := .cells #[.int .i64 (wrap64 (t233)), .int .i64 (wrap64 (t235)), .int .i64 t228, .int .i64 t226, .int .i64 (wrap64 (t237))] 29 (0, 0)) (by refine bx ?_; refine blk_put (cs := #[.int .i64 (wrap64 (t233)), .int .i64 (wrap64 (t235)), .int .i64 t228, .int .i64 t226, .int .i64 0]) ?_ 4 _ rfl; refine bx ?_; refine blk_put (cs := #[.int .i64 (wrap64 (t233)), .int .i64 (wrap64 (t235)), .int .i64 t228, .int .i64 0, .int .i64 0]) ?_ 3 _ rfl; refine bx ?_; refine blk_put (cs := #[.int .i64 (wrap64 (t233)), .int .i64 (wrap64 (t235)), .int .i64 0, .int .i64 0, .int .i64 0]) ?_ 2 _ rfl; refine bx ?_; refine blk_put (cs := #[.int .i64 (wrap64 (t233)), .int .i64 0, .int .i64 0, .int .i64 0, .int .i64 0]) ?_ 1 _ rfl; refine bx ?_; refine blk_put (cs := #[.int .i64 0, .int .i64 0, .int .i64 0, .int .i64 0, .int .i64 0]) ?_ 0 _ rfl; refine bx ?_; exact BK239.out) hb); have n3_ := as_ (below_step bA hb); clear BK224; clear BK232; clear BK239; clear HB; have BK224 := n0_; have BK232 := n1_; have BK239 := n2_; have HB := n3_; clear n0_ n1_ n2_ n3_; (try clear hb); (try clear hb2); (try clear hk); (try clear hi); have hcz20_0 : w19.cell? ⟨gb239, 0, none⟩ = some (.int .i64 (wrap64 (t233))) := (blk_cell BK239.out 0).trans rfl; have hcz20_1 : w19.cell? ⟨gb239, 1, none⟩ = some (.int .i64 (wrap64 (t235))) := (blk_cell BK239.out 1).trans rfl; have hcz20_2 : w19.cell? ⟨gb239, 2, none⟩ = some (.int .i64 t228) := (blk_cell BK239.out 2).trans rfl; have hcz20_3 : w19.cell? ⟨gb239, 3, none⟩ = some (.int .i64 t226) := (blk_cell BK239.out 3).trans rfl; have hcz20_4 : w19.cell? ⟨gb239, 4, none⟩ = some (.int .i64 (wrap64 (t237))) := (blk_cell BK239.out 4).trans rfl; obtain ⟨hfz20_0, hfz20_1, hfz20_2, hfz20_3, hfz20_4⟩ := zf5 BK239; obtain ⟨hcz21_0, hcz21_1, hcz21_2, hcz21_3, hcz21_4⟩ := zc5 BK224; obtain ⟨hfz21_0, hfz21_1, hfz21_2, hfz21_3, hfz21_4⟩ := zf5 BK224))
 refine bodyPost_ret (results_ct rfl _ _ gb224 29 #[.int .i64 (wrap64 (t233)), .int .i64 (wrap64 (t235)), .int .i64 t228, .int .i64 t226, .int .i64 (wrap64 (t237))] (0, 0) _ rfl (by refine bx ?_; refine blk_put (cs := #[.int .i64 (wrap64 (t233)), .int .i64 (wrap64 (t235)), .int .i64 t228, .int .i64 t226, .int .i64 0]) ?_ 4 _ rfl; refine bx ?_; refine blk_put (cs := #[.int .i64 (wrap64 (t233)), .int .i64 (wrap64 (t235)), .int .i64 t228, .int .i64 0, .int .i64 0]) ?_ 3 _ rfl; refine bx ?_; refine blk_put (cs := #[.int .i64 (wrap64 (t233)), .int .i64 (wrap64 (t235)), .int .i64 0, .int .i64 0, .int .i64 0]) ?_ 2 _ rfl; refine bx ?_; refine blk_put (cs := #[.int .i64 (wrap64 (t233)), .int .i64 0, .int .i64 0, .int .i64 0, .int .i64 0]) ?_ 1 _ rfl; refine bx ?_; refine blk_put (cs := #[.int .i64 0, .int .i64 0, .int .i64 0, .int .i64 0, .int .i64 0]) ?_ 0 _ rfl; refine bx ?_; exact BK224.out) Try.underlying29 rfl (by kernel_rfl)) rfl ?_
 exact ⟨eW, by repeat (first | (with_reducible first | exact HB.out | apply below_alloc | apply pw_below_drewN | apply below_drew1 | refine below_set ?_ GE224.out | refine below_set ?_ GE232.out | refine below_set ?_ GE239.out) | exact HB.out)⟩
/-! ### meta_Tear: function 16 -/
def meta_Tear.f (a0 : ByteArray) (a1 : ByteArray) (a2 : Int) : Option (ByteArray) := if (a0.size : Int) = (a1.size : Int) then (if 0 ≤ (mn (mx a2 0) (a0.size : Int)) then (if (mn (mx a2 0) (a0.size : Int)) ≤ (a0.size : Int) then (if (mn (mx a2 0) (a0.size : Int)) ≤ (a1.size : Int) then (if (a0.extract 0 ((mn (mx a2 0) (a0.size : Int)) : Int).toNat).size + (a1.extract ((mn (mx a2 0) (a0.size : Int)) : Int).toNat a1.size).size ≤ 9223372036854775807 then (some ((a0.extract 0 ((mn (mx a2 0) (a0.size : Int)) : Int).toNat) ++ (a1.extract ((mn (mx a2 0) (a0.size : Int)) : Int).toNat a1.size))) else (none)) else (none)) else (none)) else (none)) else (some (⟨#[]⟩ : ByteArray))
set_option maxHeartbeats 8000000 in
set_option maxRecDepth 100000 in
theorem meta_Tear.calls (a0 : ByteArray) (a1 : ByteArray) (a2 : Int) (r : ByteArray) (w : World) (h : meta_Tear.f a0 a1 a2 = some r) :
  Calls Try.prog 16 #[.string a0, .string a1, .int .i64 a2] w fun e w' => e = .returned (.string r) ∧ Below w.heap.size w w' := by
 have HB := as_ (Below.refl w.heap.size w)
 have H : (if (a0.size : Int) = (a1.size : Int) then (if 0 ≤ (mn (mx a2 0) (a0.size : Int)) then (if (mn (mx a2 0) (a0.size : Int)) ≤ (a0.size : Int) then (if (mn (mx a2 0) (a0.size : Int)) ≤ (a1.size : Int) then (if (a0.extract 0 ((mn (mx a2 0) (a0.size : Int)) : Int).toNat).size + (a1.extract ((mn (mx a2 0) (a0.size : Int)) : Int).toNat a1.size).size ≤ 9223372036854775807 then (some ((a0.extract 0 ((mn (mx a2 0) (a0.size : Int)) : Int).toNat) ++ (a1.extract ((mn (mx a2 0) (a0.size : Int)) : Int).toNat a1.size))) else (none)) else (none)) else (none)) else (none)) else (some (⟨#[]⟩ : ByteArray))) = some r := h
 clear h
 by_cases c4 : (a0.size : Int) = (a1.size : Int)
 rotate_left
 ·rw [if_neg c4] at H
  have c4b0 : ((a0.size : Int) == (a1.size : Int)) = false := beq_eq_false_iff_ne.mpr c4
  have c4b1 : ((a0.size : Int) != (a1.size : Int)) = true := bne_iff_ne.mpr c4
  have c4b2 : (a0.size == a1.size) = false := by first | simpa using c4 | (simp at c4 ⊢; omega)
  obtain rfl := Option.some.inj H
  go_enter Try.func16, Try.ntmps16
  go_wp2
  repeat (go_quiet (fail); try go_wp2)
  go_ret
  exact ⟨eW, by repeat (first | (with_reducible first | exact HB.out | apply below_alloc | apply pw_below_drewN | apply below_drew1) | exact HB.out)⟩
 
 rw [if_pos c4] at H
 have c4b0 : ((a0.size : Int) == (a1.size : Int)) = true := beq_iff_eq.mpr c4
 have c4b1 : ((a0.size : Int) != (a1.size : Int)) = false := bne_eq_false_iff_eq.mpr c4
 have c4b2 : (a0.size == a1.size) = true := by first | simpa using c4 | (simp at c4 ⊢; omega)
 clear c4
 obtain ⟨ji5, hji5⟩ : ∃ j_ : Int, (mx a2 0) = j_ := ⟨_, rfl⟩
 replace H : (if 0 ≤ (mn (ji5) (a0.size : Int)) then (if (mn (ji5) (a0.size : Int)) ≤ (a0.size : Int) then (if (mn (ji5) (a0.size : Int)) ≤ (a1.size : Int) then (if (a0.extract 0 ((mn (ji5) (a0.size : Int)) : Int).toNat).size + (a1.extract ((mn (ji5) (a0.size : Int)) : Int).toNat a1.size).size ≤ 9223372036854775807 then (some ((a0.extract 0 ((mn (ji5) (a0.size : Int)) : Int).toNat) ++ (a1.extract ((mn (ji5) (a0.size : Int)) : Int).toNat a1.size))) else (none)) else (none)) else (none)) else (none)) = some r := by first | (rw [hji5] at H; exact H) | (simp only [hji5] at H ⊢; exact H)
 (try (have hji5l : 0 ≤ ji5 := by (rw [← hji5]; unfold mx; (repeat' split) <;> omega)))
 (try (have hji5m : 0 ≤ ji5 := by omega))
 have hji5_ : (if a2 < 0 then 0 else a2) = ji5 := hji5
 obtain ⟨ji6, hji6⟩ : ∃ j_ : Int, (mn (ji5) (a0.size : Int)) = j_ := ⟨_, rfl⟩
 replace H : (if 0 ≤ (ji6) then (if (ji6) ≤ (a0.size : Int) then (if (ji6) ≤ (a1.size : Int) then (if (a0.extract 0 ((ji6) : Int).toNat).size + (a1.extract ((ji6) : Int).toNat a1.size).size ≤ 9223372036854775807 then (some ((a0.extract 0 ((ji6) : Int).toNat) ++ (a1.extract ((ji6) : Int).toNat a1.size))) else (none)) else (none)) else (none)) else (none)) = some r := by first | (rw [hji6] at H; exact H) | (simp only [hji6] at H ⊢; exact H)
 have hji6_ : (if (a0.size : Int) < (ji5) then (a0.size : Int) else (ji5)) = ji6 := hji6
 by_cases c7 : 0 ≤ (ji6)
 rotate_left
 ·rw [if_neg c7] at H
  exact absurd H (by simp)
 rw [if_pos c7] at H
 have c7b0 := eq_true c7
 have c7b1 : decide (0 ≤ (ji6)) = true := decide_eq_true c7
 clear c7
 by_cases c8 : (ji6) ≤ (a0.size : Int)
 rotate_left
 ·rw [if_neg c8] at H
  exact absurd H (by simp)
 rw [if_pos c8] at H
 have c8b0 := eq_true c8
 have c8b1 : decide ((ji6) ≤ (a0.size : Int)) = true := decide_eq_true c8
 clear c8
 obtain ⟨js9, hjs9⟩ : ∃ j_ : ByteArray, (a0.extract 0 ((ji6) : Int).toNat) = j_ := ⟨_, rfl⟩
 replace H : (if (ji6) ≤ (a1.size : Int) then (if (js9).size + (a1.extract ((ji6) : Int).toNat a1.size).size ≤ 9223372036854775807 then (some ((js9) ++ (a1.extract ((ji6) : Int).toNat a1.size))) else (none)) else (none)) = some r := by first | (rw [hjs9] at H; exact H) | (simp only [hjs9] at H ⊢; exact H)
 have c10b0 := eq_true (of_decide_eq_true aM : 0 ≤ (ji6))
 by_cases c11 : (ji6) ≤ (a1.size : Int)
 rotate_left
 ·rw [if_neg c11] at H
  exact absurd H (by simp)
 rw [if_pos c11] at H
 have c11b0 := eq_true c11
 have c11b1 : decide ((ji6) ≤ (a1.size : Int)) = true := decide_eq_true c11
 clear c11
 obtain ⟨js12, hjs12⟩ : ∃ j_ : ByteArray, (a1.extract ((ji6) : Int).toNat a1.size) = j_ := ⟨_, rfl⟩
 replace H : (if (js9).size + (js12).size ≤ 9223372036854775807 then (some ((js9) ++ (js12))) else (none)) = some r := by first | (rw [hjs12] at H; exact H) | (simp only [hjs12] at H ⊢; exact H)
 by_cases c13 : (js9).size + (js12).size ≤ 9223372036854775807
 rotate_left
 ·rw [if_neg c13] at H
  exact absurd H (by simp)
 rw [if_pos c13] at H
 have c13b0 := eq_true c13
 have c13b1 : decide ((js9).size + (js12).size ≤ 9223372036854775807) = true := decide_eq_true c13
 try have c13b2 : (9223372036854775807 < (js9).size + (js12).size) = False := eq_false (Nat.not_lt.2 c13)
 obtain ⟨js14, hjs14⟩ : ∃ j_ : ByteArray, ((js9) ++ (js12)) = j_ := ⟨_, rfl⟩
 replace H : (some js14) = some r := by first | (rw [hjs14] at H; exact H) | (simp only [hjs14] at H ⊢; exact H)
 obtain rfl := Option.some.inj H
 go_enter Try.func16, Try.ntmps16
 go_wp2
 repeat (go_quiet (fail); try go_wp2)
 go_ret
 exact ⟨by first | rfl | (simp [errW_none, errW_some] <;> rfl) | (simp only [← hji5, ← hji6, ← hjs9, ← hjs12, ← hjs14]; first | rfl | (simp [errW_none, errW_some] <;> rfl)) | (simp [*, errW_none, errW_some] <;> rfl), by repeat (first | (with_reducible first | exact HB.out | apply below_alloc | apply pw_below_drewN | apply below_drew1) | exact HB.out)⟩
/-! ### withyref13_Tear: function 17, by hand -/
def tear_mix (a0 a1 : ByteArray) (j i : Nat) : Int := if i < j then bt a0 i else bt a1 i
def tear_list (a0 a1 : ByteArray) (j : Nat) : List Int := (List.range a1.size).map (tear_mix a0 a1 j)
def withyref13_Tear.f (a0 : ByteArray) (a1 : ByteArray) (a2 : Int) : Option (ByteArray) := if a1.size ≤ 140737488300000 then (if a0.size = a1.size then some (strOfNums (tear_list a0 a1 (min a2.toNat a1.size))) else some (⟨#[]⟩ : ByteArray)) else none
theorem tear_bytes_run (s : ByteArray) (W : World) : (convert 9 65 (.string s)).run Try.prog W = .ok (.slice (some ⟨W.heap.size, 0, none⟩) s.size (grownCap W s.size 0 5)) (Lib.bytesWorld W 5 s) :=
 print_bytes 9 65 5 Try.underlying9 Try.underlying65 Try.underlying5 s W
theorem tear_list_get (a0 a1 : ByteArray) (j i : Nat) (h : i < a1.size) : (tear_list a0 a1 j).getD i 0 = tear_mix a0 a1 j i := by
 unfold tear_list
 simp [List.getD_eq_getElem?_getD, List.getElem?_map, List.getElem?_range h]
theorem tear_list_len (a0 a1 : ByteArray) (j : Nat) : (tear_list a0 a1 j).length = a1.size := by simp [tear_list]
theorem tear_frozen (W : World) (s : ByteArray) (j : Nat) (h : j < s.size) : (Lib.bytesWorld W 5 s).frozen? ⟨W.heap.size, j, none⟩ = false := by
 have hz : s.size ≤ (Lib.bytesCells W 5 s).size := by unfold Lib.bytesCells; simp
 simp only [World.frozen?, Lib.bytesWorld_at_new]
 simp
 omega
theorem tear_back (W : World) (g n cap : Nat) (xs : List Int) (hlen : xs.length = n) (hcell : ∀ i, i < n → W.cell? ⟨g, 0 + i, none⟩ = some (.int .u8 (xs.getD i 0))) : (convert 65 9 (.slice (some ⟨g, 0, none⟩) n cap)).run Try.prog W = .ok (.string (strOfNums xs)) W :=
 run_convert_bytes_arg (P := Try.prog) W 65 5 Try.underlying65 Try.underlying5 g 0 n cap xs hlen hcell 9 Try.underlying9
def withyref13_Tear_ret (a0 a1 : ByteArray) (j : Nat) : ByteArray := strOfNums (tear_list a0 a1 j)
set_option maxRecDepth 100000 in
set_option maxHeartbeats 4000000 in
theorem withyref13_Tear.calls (a0 : ByteArray) (a1 : ByteArray) (a2 : Int) (r : ByteArray) (w : World) (h : withyref13_Tear.f a0 a1 a2 = some r) :
  Calls Try.prog 17 #[.string a0, .string a1, .int .i64 a2] w fun e w' => e = .returned (.string r) ∧ Below w.heap.size w w' := by
 unfold withyref13_Tear.f at h
 by_cases h1 : a1.size ≤ 140737488300000
 rotate_left
 ·rw [if_neg h1] at h
  cases h
 
 
 rw [if_pos h1] at h
 by_cases h0 : a0.size = a1.size
 rotate_left
 ·rw [if_neg h0] at h
  have H := as_ (Option.some.inj h)
  clear h
  have hne : ((a0.size : Int) != (a1.size : Int)) = true := by simp; omega
  have H0 := Aside0.mk h0
  have H1 := Aside0.mk h1
  clear h0 h1
  have HB := as_ (Below.refl w.heap.size w)
  go_enter Try.func17, Try.ntmps17
  go_wp2
  go_ret
  exact ⟨by rw [← H.out]; rfl, by repeat (first | exact HB.out | apply below_alloc | apply pw_below_drewN | apply below_drew1)⟩
 rw [if_pos h0] at h
 have H := as_ (Option.some.inj h)
 clear h
 have HB := as_ (bytes_below (Below.refl w.heap.size w) (Nat.le_refl _) 5 a1)
 have hC := as_ (Lib.bytesWorld_cell w 5 a1)
 have hF := as_ (tear_frozen w a1)
 have hne : ((a0.size : Int) != (a1.size : Int)) = false := by simp [h0]
 have kb := tear_bytes_run a1
 have H0 := Aside0.mk h0
 have H1 := Aside0.mk h1
 clear h0 h1
 go_enter Try.func17, Try.ntmps17
 go_wp2
 go_loopg [8] (a1.size + 1) (fun kq v8 w' => ∃ j : Nat, v8 = .int .i64 (j : Int) ∧ Aside0 (j ≤ a1.size ∧ (j : Int) ≤ max a2 0 ∧ kq + j = a1.size + 1) ∧ Aside0 (Below w.heap.size w w' ∧ w.heap.size < w'.heap.size) ∧ Aside0 (∀ i, i < a1.size → w'.cell? ⟨w.heap.size, i, none⟩ = some (.int .u8 (tear_mix a0 a1 j i)) ∧ w'.frozen? ⟨w.heap.size, i, none⟩ = false))
 case atStart =>
  refine ⟨0, rfl, ⟨by omega, by omega, rfl⟩, ⟨HB.out, by rw [Lib.bytesWorld_size]; omega⟩, ⟨fun i hi => ⟨?_, hF.out i hi⟩⟩⟩
  rw [hC.out i hi]
  have hm : tear_mix a0 a1 0 i = bt a1 i := by unfold tear_mix; rw [if_neg (by omega)]
  rw [hm]
  have hl : a1.data.toList.length = a1.size := data_length a1
  have hb := bt_at a1 (i : Int)
  simp only [Int.toNat_natCast] at hb
  rw [← hb hi]
  simp [List.getD_eq_getElem?_getD, List.getElem?_eq_getElem (show i < a1.data.toList.length by omega), ByteArray.getElem_eq_getElem_data]
 case round =>
  obtain ⟨j, rfl, ⟨hj1, hj2, hj3⟩, ⟨hb, hsz⟩, ⟨hcs⟩⟩ := hrel
  have HB2 := Aside0.mk hb
  have HS2 := Aside0.mk hsz
  have HC2 := Aside0.mk hcs
  clear hb hsz hcs
  have hfin : j = min a2.toNat a1.size → withyref13_Tear_ret a0 a1 j = r := fun e => by rw [← H.out, ← e]; rfl
  have hback := tear_back wr w.heap.size a1.size (grownCap w a1.size 0 5) (tear_list a0 a1 j) (tear_list_len a0 a1 j) (fun i hi => by rw [Nat.zero_add, (HC2.out i hi).1, tear_list_get a0 a1 j i hi])
  by_cases hA : j < a1.size
  rotate_left
  ·have hA1 : decide ((j : Int) < (a1.size : Int)) = false := decide_eq_false (by omega)
   go_wp2
   go_ret
   exact ⟨by rw [← hfin (by omega)]; rfl, HB2.out⟩
  have hA1 : decide ((j : Int) < (a1.size : Int)) = true := decide_eq_true (by omega)
  by_cases hB : (j : Int) < a2
  rotate_left
  ·have hB1 : decide ((j : Int) < a2) = false := decide_eq_false hB
   go_wp2
   go_ret
   exact ⟨by rw [← hfin (by omega)]; rfl, HB2.out⟩
  have hB1 : decide ((j : Int) < a2) = true := decide_eq_true hB
  have hA2 : j < a0.size := by rw [H0.out]; exact hA
  have hc := (HC2.out j hA).1
  have hf := (HC2.out j hA).2
  have hw : IntKind.i64.wrap ((j : Int) + 1) = ((j + 1 : Nat) : Int) := by have := H1.out; rw [IntKind.wrap_i64]; omega
  have hx : ∀ h : j < a0.size, ((a0[j]'h).toNat : Int) = bt a0 (j : Int) := fun h => by have := bt_at a0 (j : Int); simp only [Int.toNat_natCast] at this; exact this h
  have q0 : ((j : Int) < (a0.size : Int)) = True := eq_true (by omega)
  have q1 : ((j : Int) < (a1.size : Int)) = True := eq_true (by omega)
  have q2 : (j < a1.size) = True := eq_true hA
  have q3 : (j < a0.size) = True := eq_true hA2
  go_wp2
  go_roundg (a1.size - j)
  ·refine ⟨j + 1, rfl, ⟨by omega, by omega, by omega⟩, ⟨HB2.out.setCell (p := ⟨w.heap.size, j, none⟩) (Nat.le_refl _) _, by rw [World.size_setCell]; exact HS2.out⟩, ⟨fun i hi => ⟨?_, by rw [World.frozen?_setCell]; exact (HC2.out i hi).2⟩⟩⟩
   by_cases hij : i = j
   ·subst hij
    have hm : tear_mix a0 a1 (i + 1) i = bt a0 i := by unfold tear_mix; rw [if_pos (by omega)]
    rw [hm]
    exact World.cell?_setCell_same _ _ _ hc
   have hm : tear_mix a0 a1 (j + 1) i = tear_mix a0 a1 j i := by
    unfold tear_mix
    by_cases h3 : i < j
    rotate_left
    ·rw [if_neg h3, if_neg (by omega)]
    rw [if_pos h3, if_pos (by omega)]
   rw [hm, World.cell?_setCell_other (h := fun e => hij (by injection e with _ e2 _; exact e2.symm))]
   exact (HC2.out i hi).1
  ·omega
/-! ### withylaw13_fixed: function 18 -/
def withylaw13_fixed.j0 : Nat → ByteArray → Int → Int → Bool → Int → Int → Int → Int → Int → Option (Bool)
 | 0, _, _, _, _, _, _, _, _, _ => none
 | k + 1, x2, x5, x7, x38, x243000, x243001, x243002, x243003, x243004 => if x38 = true then (none) else ((meta_Decode.f k x2).bind fun bt249 => ((withyref01_Repeat.f k 0 128).bind fun t256 => ((meta_Decode.f k t256).bind fun bt257 => ((withyref01_Repeat.f k 0 128).bind fun t264 => ((meta_Tear.f x2 t264 127).bind fun t265 => ((meta_Decode.f k t265).bind fun bt266 => ((withyref01_Repeat.f k 0 128).bind fun t273 => ((meta_Tear.f x2 t273 128).bind fun t274 => ((meta_Decode.f k t274).bind fun bt275 => (if 0 < (x2.size : Int) then (if (bt x2 0) = 1 then (if 4 < (x2.size : Int) then (if (bt x2 4) = 1 then (if 16 ≤ 22 then (if 22 ≤ (x2.size : Int) then (if (x2.extract 16 22).toList = ([119, 105, 116, 104, 121, 128] : List UInt8) then (if 127 < (x2.size : Int) then (if (bt x2 127) = 87 then (if x5 = 3 then (if x7 = 3 then (if (bt249.1 == x243000 && (bt249.2.1 == x243001 && (bt249.2.2.1 == x243002 && (bt249.2.2.2.1 == x243003 && (bt249.2.2.2.2.1 == x243004))))) = true then (if bt249.2.2.2.2.2 = 0 then (if bt257.2.2.2.2.2 = 3 then (if bt266.2.2.2.2.2 = 3 then (if bt275.2.2.2.2.2 = 0 then ((meta_Tear.f (⟨#[97, 98, 99]⟩ : ByteArray) (⟨#[120, 121, 122]⟩ : ByteArray) 1).bind fun t282 => (if t282.toList = ([97, 121, 122] : List UInt8) then ((meta_Tear.f (⟨#[97, 98, 99]⟩ : ByteArray) (⟨#[120, 121, 122]⟩ : ByteArray) (-1)).bind fun t283 => (if t283.toList = ([120, 121, 122] : List UInt8) then ((meta_Tear.f (⟨#[97, 98, 99]⟩ : ByteArray) (⟨#[120, 121, 122]⟩ : ByteArray) 9).bind fun t284 => (if t284.toList = ([97, 98, 99] : List UInt8) then ((meta_Tear.f (⟨#[97]⟩ : ByteArray) (⟨#[]⟩ : ByteArray) 1).bind fun t285 => (if t285.toList = ([] : List UInt8) then ((meta_May.f x243000 x243001 x243002 x243003 x243004).bind fun t286 => (if t286 = true then ((meta_May.f 100 2 1 0 0).bind fun t287 => (some (!t287))) else (none))) else (none))) else (none))) else (none))) else (none))) else (none)) else (none)) else (none)) else (none)) else (none)) else (none)) else (none)) else (none)) else (none)) else (none)) else (none)) else (none)) else (none)) else (none)) else (none)) else (none)))))))))))
def withylaw13_fixed.f (k : Nat)  : Option (Bool) := (meta_Encode.f k 128 2 1 0 0).bind fun bt243 => ((meta_Encode.f k 128 2 2 0 0).bind fun bt245 => ((meta_Encode.f k 0 0 0 0 0).bind fun bt247 => (if bt243.2 = 0 then (withylaw13_fixed.j0 k bt243.1 bt245.2 bt247.2 ((bt243.1.size : Int) != 128) 128 2 1 0 0) else (withylaw13_fixed.j0 k bt243.1 bt245.2 bt247.2 true 128 2 1 0 0))))
theorem withylaw13_fixed.mono_l : ∀ k, (∀ y0 y1 y2 y3 y4 y5 y6 y7 y8, LeO (withylaw13_fixed.j0 k y0 y1 y2 y3 y4 y5 y6 y7 y8) (withylaw13_fixed.j0 (k + 1) y0 y1 y2 y3 y4 y5 y6 y7 y8))
 | 0 => fun _ _ _ _ _ _ _ _ _ r h => by simp [withylaw13_fixed.j0] at h
 | k + 1 => by
  have ih0 := withylaw13_fixed.mono_l k
  ·intro y0 y1 y2 y3 y4 y5 y6 y7 y8
   unfold withylaw13_fixed.j0
   repeat' first
   | (with_reducible exact ih0 _ _ _ _ _ _ _ _ _)
   | (with_reducible exact meta_Decode.mono _ _)
   | (with_reducible exact meta_Encode.mono _ _ _ _ _ _)
   | (with_reducible exact withyref01_Repeat.mono _ _ _)
   | (with_reducible exact LeO.refl _)
   | (with_reducible exact LeO.none _)
   | (with_reducible refine LeO.ite ?_ ?_)
   | (with_reducible refine LeO.bind ?_ (fun _ => ?_))
   | exact ih0 _ _ _ _ _ _ _ _ _
   | exact meta_Decode.mono _ _
   | exact meta_Encode.mono _ _ _ _ _ _
   | exact withyref01_Repeat.mono _ _ _
   | exact LeO.none _
   | refine LeO.ite ?_ ?_
   | refine LeO.bind ?_ (fun _ => ?_)
theorem withylaw13_fixed.mono : ∀ k, LeO (withylaw13_fixed.f k ) (withylaw13_fixed.f (k + 1) ) := by
 intro  k
 have ih0 := withylaw13_fixed.mono_l k
 unfold withylaw13_fixed.f
 repeat' first
   | (with_reducible exact ih0 _ _ _ _ _ _ _ _ _)
   | (with_reducible exact meta_Decode.mono _ _)
   | (with_reducible exact meta_Encode.mono _ _ _ _ _ _)
   | (with_reducible exact withyref01_Repeat.mono _ _ _)
   | (with_reducible exact LeO.refl _)
   | (with_reducible exact LeO.none _)
   | (with_reducible refine LeO.ite ?_ ?_)
   | (with_reducible refine LeO.bind ?_ (fun _ => ?_))
   | exact ih0 _ _ _ _ _ _ _ _ _
   | exact meta_Decode.mono _ _
   | exact meta_Encode.mono _ _ _ _ _ _
   | exact withyref01_Repeat.mono _ _ _
   | exact LeO.none _
   | refine LeO.ite ?_ ?_
   | refine LeO.bind ?_ (fun _ => ?_)
set_option maxHeartbeats 8000000 in
set_option maxRecDepth 100000 in
theorem withylaw13_fixed.calls (k : Nat)  (r : Bool) (w : World) (h : withylaw13_fixed.f k  = some r) :
  Calls Try.prog 18 #[] w fun e w' => e = .returned (.bool r) ∧ Below w.heap.size w w' := by
 have hu23 := Try.underlying23
 have HB := as_ (Below.refl w.heap.size w)
 have H : ((meta_Encode.f k 128 2 1 0 0).bind fun bt243 => ((meta_Encode.f k 128 2 2 0 0).bind fun bt245 => ((meta_Encode.f k 0 0 0 0 0).bind fun bt247 => (if bt243.2 = 0 then (withylaw13_fixed.j0 k bt243.1 bt245.2 bt247.2 ((bt243.1.size : Int) != 128) 128 2 1 0 0) else (withylaw13_fixed.j0 k bt243.1 bt245.2 bt247.2 true 128 2 1 0 0))))) = some r := h
 clear h
 replace H := bM H
 obtain ⟨⟨t243, t244⟩, A10, H⟩ := H
 replace H : ((meta_Encode.f k 128 2 2 0 0).bind fun bt245 => ((meta_Encode.f k 0 0 0 0 0).bind fun bt247 => (if t244 = 0 then (withylaw13_fixed.j0 k t243 bt245.2 bt247.2 ((t243.size : Int) != 128) 128 2 1 0 0) else (withylaw13_fixed.j0 k t243 bt245.2 bt247.2 true 128 2 1 0 0)))) = some r := H
 have A1 := Aside0.mk A10
 clear A10
 replace H := bM H
 obtain ⟨⟨t245, t246⟩, A20, H⟩ := H
 replace H : ((meta_Encode.f k 0 0 0 0 0).bind fun bt247 => (if t244 = 0 then (withylaw13_fixed.j0 k t243 t246 bt247.2 ((t243.size : Int) != 128) 128 2 1 0 0) else (withylaw13_fixed.j0 k t243 t246 bt247.2 true 128 2 1 0 0))) = some r := H
 have A2 := Aside0.mk A20
 clear A20
 replace H := bM H
 obtain ⟨⟨t247, t248⟩, A30, H⟩ := H
 replace H : (if t244 = 0 then (withylaw13_fixed.j0 k t243 t246 t248 ((t243.size : Int) != 128) 128 2 1 0 0) else (withylaw13_fixed.j0 k t243 t246 t248 true 128 2 1 0 0)) = some r := H
 have A3 := Aside0.mk A30
 clear A30
 have HC4 := Aside0.mk H
 clear H
 go_enter Try.func18, Try.ntmps18
 (try simp only [List.append_eq, List.cons_append, List.nil_append])
 go_upto_region 5 with (first | ((with_reducible refine gate_dst (N := 1) rfl ?_); (try (refine gate_guard (by rfl) ?_; dsimp only)); refine box_event (by rfl) (N := 1) (by rfl) (cs := #[.int .i64 0, .int .i64 0, .int .i64 0, .int .i64 0, .int .i64 0]) (t := 23) gS ?_; intro gb242 hg w5 hbox hb; have BK242 := as_ (hbox); have GW242 := gw hg bA; have GE242 := gw hg bA; replace HB := as_ (below_step bA hb); clear hb hbox hg; obtain ⟨hcz6_0, hcz6_1, hcz6_2, hcz6_3, hcz6_4⟩ := zc5 BK242; obtain ⟨hfz6_0, hfz6_1, hfz6_2, hfz6_3, hfz6_4⟩ := zf5 BK242) | ((with_reducible refine gate_callee (f := 9) rfl ?_); refine goesL_ (some 19) rfl rfl Try.func9 (by kernel_rfl) rfl #[.agg #[.int .i64 128, .int .i64 2, .int .i64 1, .int .i64 0, .int .i64 0]] rfl aO ?_; (with_reducible refine (meta_Encode.calls k 128 2 1 0 0 t243 t244 _ A1.out).mono ?_); rintro e w7 ⟨rfl, hb⟩; refine ⟨_, rfl, ?_⟩; have n0_ := as_ (blk_below (g := gb242) (o := .cells #[.int .i64 128, .int .i64 2, .int .i64 1, .int .i64 0, .int .i64 0] 23 (0, 0)) (by refine bx ?_; refine blk_put (cs := #[.int .i64 128, .int .i64 2, .int .i64 1, .int .i64 0, .int .i64 0]) ?_ 4 _ rfl; refine bx ?_; refine blk_put (cs := #[.int .i64 128, .int .i64 2, .int .i64 1, .int .i64 0, .int .i64 0]) ?_ 3 _ rfl; refine bx ?_; refine blk_put (cs := #[.int .i64 128, .int .i64 2, .int .i64 0, .int .i64 0, .int .i64 0]) ?_ 2 _ rfl; refine bx ?_; refine blk_put (cs := #[.int .i64 128, .int .i64 0, .int .i64 0, .int .i64 0, .int .i64 0]) ?_ 1 _ rfl; refine bx ?_; refine blk_put (cs := #[.int .i64 0, .int .i64 0, .int .i64 0, .int .i64 0, .int .i64 0]) ?_ 0 _ rfl; refine bx ?_; exact BK242.out) hb); have n1_ := as_ (below_step bA hb); clear BK242; clear HB; have BK242 := n0_; have HB := n1_; clear n0_ n1_; (try clear hb); (try clear hb2); (try clear hk); (try clear hi)) | ((with_reducible refine gate_callee (f := 9) rfl ?_); refine goesL_ (some 24) rfl rfl Try.func9 (by kernel_rfl) rfl #[.agg #[.int .i64 128, .int .i64 2, .int .i64 2, .int .i64 0, .int .i64 0]] rfl aO ?_; (with_reducible refine (meta_Encode.calls k 128 2 2 0 0 t245 t246 _ A2.out).mono ?_); rintro e w8 ⟨rfl, hb⟩; refine ⟨_, rfl, ?_⟩; replace BK242 := bb BK242 hb; replace HB := as_ (below_step bA hb); (try clear hb); (try clear hb2); (try clear hk); (try clear hi)) | ((with_reducible refine gate_callee (f := 9) rfl ?_); refine goesL_ (some 29) rfl rfl Try.func9 (by kernel_rfl) rfl #[.agg #[.int .i64 0, .int .i64 0, .int .i64 0, .int .i64 0, .int .i64 0]] rfl aO ?_; (with_reducible refine (meta_Encode.calls k 0 0 0 0 0 t247 t248 _ A3.out).mono ?_); rintro e w9 ⟨rfl, hb⟩; refine ⟨_, rfl, ?_⟩; replace BK242 := bb BK242 hb; replace HB := as_ (below_step bA hb); (try clear hb); (try clear hb2); (try clear hk); (try clear hi)))
 (try simp only [Act.put, List.setIfInBounds_toArray, List.set_cons_zero, List.set_cons_succ])
 go_cut [38] (fun v38 wc => ∃ (kq : Nat) (x38_3 : Bool), v38 = .bool x38_3 ∧ Aside0 (withylaw13_fixed.j0 kq t243 t246 t248 x38_3 128 2 1 0 0 = some r) ∧ Aside0 (kq ≤ k) ∧ Aside0 (wc.heap[gb242]? = some (.cells #[.int .i64 128, .int .i64 2, .int .i64 1, .int .i64 0, .int .i64 0] 23 (0, 0))) ∧ Aside0 (Below w.heap.size w wc))
 case first =>
  have H := HC4.out
  clear HC4
  by_cases c10 : t244 = 0
  rotate_left
  ·rw [if_neg c10] at H
   have c10b0 : (t244 == 0) = false := beq_eq_false_iff_ne.mpr c10
   have c10b1 : (t244 != 0) = true := bne_iff_ne.mpr c10
   (first | rw [c10b0] | (simp only [i64_w, i32_w]; rw [c10b0]) | rw [c10b1] | skip)
   have H' := Aside0.mk H
   clear H
   go_wp2
   go_meet
   case rel => exact ⟨_, (true), (by first | rfl | (simp; done) | (simp [*]; done)), H', ⟨by first | omega | exact Nat.le_refl _⟩, ⟨by refine bx ?_; exact BK242.out⟩, ⟨by repeat (first | (with_reducible first | exact HB.out | apply below_alloc | apply pw_below_drewN | apply below_drew1 | refine below_set ?_ GE242.out) | exact HB.out)⟩⟩
  rw [if_pos c10] at H
  have c10b0 : (t244 == 0) = true := beq_iff_eq.mpr c10
  have c10b1 : (t244 != 0) = false := bne_eq_false_iff_eq.mpr c10
  clear c10
  (first | rw [c10b0] | (simp only [i64_w, i32_w]; rw [c10b0]) | rw [c10b1] | skip)
  have H' := Aside0.mk H
  clear H
  go_wp2
  go_meet
  case rel => exact ⟨_, (((t243.size : Int) != 128)), (by first | rfl | (simp; done) | (simp [*]; done)), H', ⟨by first | omega | exact Nat.le_refl _⟩, ⟨by refine bx ?_; exact BK242.out⟩, ⟨by repeat (first | (with_reducible first | exact HB.out | apply below_alloc | apply pw_below_drewN | apply below_drew1 | refine below_set ?_ GE242.out) | exact HB.out)⟩⟩
 case rest =>
  clear HC4
  try clear c1
  try clear p2
  try clear c9
  try clear c10
  try clear c10b0
  try clear c10b1
  try clear hcz6_0
  try clear hcz6_1
  try clear hcz6_2
  try clear hcz6_3
  try clear hcz6_4
  try clear hfz6_0
  try clear hfz6_1
  try clear hfz6_2
  try clear hfz6_3
  try clear hfz6_4
  obtain ⟨kq, x38_3, rfl, HA, HJ3, BK242, HB⟩ := hcut
  cases kq with
  | zero => exact absurd HA.out (by simp [withylaw13_fixed.j0])
  | succ kj3 =>
   have H := HA.out
   clear HA
   simp only [withylaw13_fixed.j0] at H
   by_cases c11 : x38_3 = true
   ·subst c11
    have H1 : (none) = some r := by rw [if_pos rfl] at H; exact H
    clear H
    have H := H1
    clear H1
    exact absurd H (by simp)
   replace c11 := Bool.eq_false_iff.mpr c11
   subst c11
   have H1 : ((meta_Decode.f kj3 t243).bind fun bt249 => ((withyref01_Repeat.f kj3 0 128).bind fun t256 => ((meta_Decode.f kj3 t256).bind fun bt257 => ((withyref01_Repeat.f kj3 0 128).bind fun t264 => ((meta_Tear.f t243 t264 127).bind fun t265 => ((meta_Decode.f kj3 t265).bind fun bt266 => ((withyref01_Repeat.f kj3 0 128).bind fun t273 => ((meta_Tear.f t243 t273 128).bind fun t274 => ((meta_Decode.f kj3 t274).bind fun bt275 => (if 0 < (t243.size : Int) then (if (bt t243 0) = 1 then (if 4 < (t243.size : Int) then (if (bt t243 4) = 1 then (if 16 ≤ 22 then (if 22 ≤ (t243.size : Int) then (if (t243.extract 16 22).toList = ([119, 105, 116, 104, 121, 128] : List UInt8) then (if 127 < (t243.size : Int) then (if (bt t243 127) = 87 then (if t246 = 3 then (if t248 = 3 then (if (bt249.1 == 128 && (bt249.2.1 == 2 && (bt249.2.2.1 == 1 && (bt249.2.2.2.1 == 0 && (bt249.2.2.2.2.1 == 0))))) = true then (if bt249.2.2.2.2.2 = 0 then (if bt257.2.2.2.2.2 = 3 then (if bt266.2.2.2.2.2 = 3 then (if bt275.2.2.2.2.2 = 0 then ((meta_Tear.f (⟨#[97, 98, 99]⟩ : ByteArray) (⟨#[120, 121, 122]⟩ : ByteArray) 1).bind fun t282 => (if t282.toList = ([97, 121, 122] : List UInt8) then ((meta_Tear.f (⟨#[97, 98, 99]⟩ : ByteArray) (⟨#[120, 121, 122]⟩ : ByteArray) (-1)).bind fun t283 => (if t283.toList = ([120, 121, 122] : List UInt8) then ((meta_Tear.f (⟨#[97, 98, 99]⟩ : ByteArray) (⟨#[120, 121, 122]⟩ : ByteArray) 9).bind fun t284 => (if t284.toList = ([97, 98, 99] : List UInt8) then ((meta_Tear.f (⟨#[97]⟩ : ByteArray) (⟨#[]⟩ : ByteArray) 1).bind fun t285 => (if t285.toList = ([] : List UInt8) then ((meta_May.f 128 2 1 0 0).bind fun t286 => (if t286 = true then ((meta_May.f 100 2 1 0 0).bind fun t287 => (some (!t287))) else (none))) else (none))) else (none))) else (none))) else (none))) else (none)) else (none)) else (none)) else (none)) else (none)) else (none)) else (none)) else (none)) else (none)) else (none)) else (none)) else (none)) else (none)) else (none)) else (none)) else (none))))))))))) = some r := by rw [if_neg (show ¬ (false = true) by decide)] at H; exact H
   clear H
   have H := H1
   clear H1
   replace H := bM H
   obtain ⟨⟨t249, t250, t251, t252, t253, t254⟩, A120, H⟩ := H
   replace H : ((withyref01_Repeat.f kj3 0 128).bind fun t256 => ((meta_Decode.f kj3 t256).bind fun bt257 => ((withyref01_Repeat.f kj3 0 128).bind fun t264 => ((meta_Tear.f t243 t264 127).bind fun t265 => ((meta_Decode.f kj3 t265).bind fun bt266 => ((withyref01_Repeat.f kj3 0 128).bind fun t273 => ((meta_Tear.f t243 t273 128).bind fun t274 => ((meta_Decode.f kj3 t274).bind fun bt275 => (if 0 < (t243.size : Int) then (if (bt t243 0) = 1 then (if 4 < (t243.size : Int) then (if (bt t243 4) = 1 then (if 16 ≤ 22 then (if 22 ≤ (t243.size : Int) then (if (t243.extract 16 22).toList = ([119, 105, 116, 104, 121, 128] : List UInt8) then (if 127 < (t243.size : Int) then (if (bt t243 127) = 87 then (if t246 = 3 then (if t248 = 3 then (if (t249 == 128 && (t250 == 2 && (t251 == 1 && (t252 == 0 && (t253 == 0))))) = true then (if t254 = 0 then (if bt257.2.2.2.2.2 = 3 then (if bt266.2.2.2.2.2 = 3 then (if bt275.2.2.2.2.2 = 0 then ((meta_Tear.f (⟨#[97, 98, 99]⟩ : ByteArray) (⟨#[120, 121, 122]⟩ : ByteArray) 1).bind fun t282 => (if t282.toList = ([97, 121, 122] : List UInt8) then ((meta_Tear.f (⟨#[97, 98, 99]⟩ : ByteArray) (⟨#[120, 121, 122]⟩ : ByteArray) (-1)).bind fun t283 => (if t283.toList = ([120, 121, 122] : List UInt8) then ((meta_Tear.f (⟨#[97, 98, 99]⟩ : ByteArray) (⟨#[120, 121, 122]⟩ : ByteArray) 9).bind fun t284 => (if t284.toList = ([97, 98, 99] : List UInt8) then ((meta_Tear.f (⟨#[97]⟩ : ByteArray) (⟨#[]⟩ : ByteArray) 1).bind fun t285 => (if t285.toList = ([] : List UInt8) then ((meta_May.f 128 2 1 0 0).bind fun t286 => (if t286 = true then ((meta_May.f 100 2 1 0 0).bind fun t287 => (some (!t287))) else (none))) else (none))) else (none))) else (none))) else (none))) else (none)) else (none)) else (none)) else (none)) else (none)) else (none)) else (none)) else (none)) else (none)) else (none)) else (none)) else (none)) else (none)) else (none)) else (none)) else (none)))))))))) = some r := H
   have A12 := Aside0.mk A120
   clear A120
   replace H := bM H
   obtain ⟨t256, A130, H⟩ := H
   replace H : ((meta_Decode.f kj3 t256).bind fun bt257 => ((withyref01_Repeat.f kj3 0 128).bind fun t264 => ((meta_Tear.f t243 t264 127).bind fun t265 => ((meta_Decode.f kj3 t265).bind fun bt266 => ((withyref01_Repeat.f kj3 0 128).bind fun t273 => ((meta_Tear.f t243 t273 128).bind fun t274 => ((meta_Decode.f kj3 t274).bind fun bt275 => (if 0 < (t243.size : Int) then (if (bt t243 0) = 1 then (if 4 < (t243.size : Int) then (if (bt t243 4) = 1 then (if 16 ≤ 22 then (if 22 ≤ (t243.size : Int) then (if (t243.extract 16 22).toList = ([119, 105, 116, 104, 121, 128] : List UInt8) then (if 127 < (t243.size : Int) then (if (bt t243 127) = 87 then (if t246 = 3 then (if t248 = 3 then (if (t249 == 128 && (t250 == 2 && (t251 == 1 && (t252 == 0 && (t253 == 0))))) = true then (if t254 = 0 then (if bt257.2.2.2.2.2 = 3 then (if bt266.2.2.2.2.2 = 3 then (if bt275.2.2.2.2.2 = 0 then ((meta_Tear.f (⟨#[97, 98, 99]⟩ : ByteArray) (⟨#[120, 121, 122]⟩ : ByteArray) 1).bind fun t282 => (if t282.toList = ([97, 121, 122] : List UInt8) then ((meta_Tear.f (⟨#[97, 98, 99]⟩ : ByteArray) (⟨#[120, 121, 122]⟩ : ByteArray) (-1)).bind fun t283 => (if t283.toList = ([120, 121, 122] : List UInt8) then ((meta_Tear.f (⟨#[97, 98, 99]⟩ : ByteArray) (⟨#[120, 121, 122]⟩ : ByteArray) 9).bind fun t284 => (if t284.toList = ([97, 98, 99] : List UInt8) then ((meta_Tear.f (⟨#[97]⟩ : ByteArray) (⟨#[]⟩ : ByteArray) 1).bind fun t285 => (if t285.toList = ([] : List UInt8) then ((meta_May.f 128 2 1 0 0).bind fun t286 => (if t286 = true then ((meta_May.f 100 2 1 0 0).bind fun t287 => (some (!t287))) else (none))) else (none))) else (none))) else (none))) else (none))) else (none)) else (none)) else (none)) else (none)) else (none)) else (none)) else (none)) else (none)) else (none)) else (none)) else (none)) else (none)) else (none)) else (none)) else (none)) else (none))))))))) = some r := H
   have A13 := Aside0.mk A130
   clear A130
   replace H := bM H
   obtain ⟨⟨t257, t258, t259, t260, t261, t262⟩, A140, H⟩ := H
   replace H : ((withyref01_Repeat.f kj3 0 128).bind fun t264 => ((meta_Tear.f t243 t264 127).bind fun t265 => ((meta_Decode.f kj3 t265).bind fun bt266 => ((withyref01_Repeat.f kj3 0 128).bind fun t273 => ((meta_Tear.f t243 t273 128).bind fun t274 => ((meta_Decode.f kj3 t274).bind fun bt275 => (if 0 < (t243.size : Int) then (if (bt t243 0) = 1 then (if 4 < (t243.size : Int) then (if (bt t243 4) = 1 then (if 16 ≤ 22 then (if 22 ≤ (t243.size : Int) then (if (t243.extract 16 22).toList = ([119, 105, 116, 104, 121, 128] : List UInt8) then (if 127 < (t243.size : Int) then (if (bt t243 127) = 87 then (if t246 = 3 then (if t248 = 3 then (if (t249 == 128 && (t250 == 2 && (t251 == 1 && (t252 == 0 && (t253 == 0))))) = true then (if t254 = 0 then (if t262 = 3 then (if bt266.2.2.2.2.2 = 3 then (if bt275.2.2.2.2.2 = 0 then ((meta_Tear.f (⟨#[97, 98, 99]⟩ : ByteArray) (⟨#[120, 121, 122]⟩ : ByteArray) 1).bind fun t282 => (if t282.toList = ([97, 121, 122] : List UInt8) then ((meta_Tear.f (⟨#[97, 98, 99]⟩ : ByteArray) (⟨#[120, 121, 122]⟩ : ByteArray) (-1)).bind fun t283 => (if t283.toList = ([120, 121, 122] : List UInt8) then ((meta_Tear.f (⟨#[97, 98, 99]⟩ : ByteArray) (⟨#[120, 121, 122]⟩ : ByteArray) 9).bind fun t284 => (if t284.toList = ([97, 98, 99] : List UInt8) then ((meta_Tear.f (⟨#[97]⟩ : ByteArray) (⟨#[]⟩ : ByteArray) 1).bind fun t285 => (if t285.toList = ([] : List UInt8) then ((meta_May.f 128 2 1 0 0).bind fun t286 => (if t286 = true then ((meta_May.f 100 2 1 0 0).bind fun t287 => (some (!t287))) else (none))) else (none))) else (none))) else (none))) else (none))) else (none)) else (none)) else (none)) else (none)) else (none)) else (none)) else (none)) else (none)) else (none)) else (none)) else (none)) else (none)) else (none)) else (none)) else (none)) else (none)))))))) = some r := H
   have A14 := Aside0.mk A140
   clear A140
   replace H := bM H
   obtain ⟨t264, A150, H⟩ := H
   replace H : ((meta_Tear.f t243 t264 127).bind fun t265 => ((meta_Decode.f kj3 t265).bind fun bt266 => ((withyref01_Repeat.f kj3 0 128).bind fun t273 => ((meta_Tear.f t243 t273 128).bind fun t274 => ((meta_Decode.f kj3 t274).bind fun bt275 => (if 0 < (t243.size : Int) then (if (bt t243 0) = 1 then (if 4 < (t243.size : Int) then (if (bt t243 4) = 1 then (if 16 ≤ 22 then (if 22 ≤ (t243.size : Int) then (if (t243.extract 16 22).toList = ([119, 105, 116, 104, 121, 128] : List UInt8) then (if 127 < (t243.size : Int) then (if (bt t243 127) = 87 then (if t246 = 3 then (if t248 = 3 then (if (t249 == 128 && (t250 == 2 && (t251 == 1 && (t252 == 0 && (t253 == 0))))) = true then (if t254 = 0 then (if t262 = 3 then (if bt266.2.2.2.2.2 = 3 then (if bt275.2.2.2.2.2 = 0 then ((meta_Tear.f (⟨#[97, 98, 99]⟩ : ByteArray) (⟨#[120, 121, 122]⟩ : ByteArray) 1).bind fun t282 => (if t282.toList = ([97, 121, 122] : List UInt8) then ((meta_Tear.f (⟨#[97, 98, 99]⟩ : ByteArray) (⟨#[120, 121, 122]⟩ : ByteArray) (-1)).bind fun t283 => (if t283.toList = ([120, 121, 122] : List UInt8) then ((meta_Tear.f (⟨#[97, 98, 99]⟩ : ByteArray) (⟨#[120, 121, 122]⟩ : ByteArray) 9).bind fun t284 => (if t284.toList = ([97, 98, 99] : List UInt8) then ((meta_Tear.f (⟨#[97]⟩ : ByteArray) (⟨#[]⟩ : ByteArray) 1).bind fun t285 => (if t285.toList = ([] : List UInt8) then ((meta_May.f 128 2 1 0 0).bind fun t286 => (if t286 = true then ((meta_May.f 100 2 1 0 0).bind fun t287 => (some (!t287))) else (none))) else (none))) else (none))) else (none))) else (none))) else (none)) else (none)) else (none)) else (none)) else (none)) else (none)) else (none)) else (none)) else (none)) else (none)) else (none)) else (none)) else (none)) else (none)) else (none)) else (none))))))) = some r := H
   have A15 := Aside0.mk A150
   clear A150
   replace H := bM H
   obtain ⟨t265, A160, H⟩ := H
   replace H : ((meta_Decode.f kj3 t265).bind fun bt266 => ((withyref01_Repeat.f kj3 0 128).bind fun t273 => ((meta_Tear.f t243 t273 128).bind fun t274 => ((meta_Decode.f kj3 t274).bind fun bt275 => (if 0 < (t243.size : Int) then (if (bt t243 0) = 1 then (if 4 < (t243.size : Int) then (if (bt t243 4) = 1 then (if 16 ≤ 22 then (if 22 ≤ (t243.size : Int) then (if (t243.extract 16 22).toList = ([119, 105, 116, 104, 121, 128] : List UInt8) then (if 127 < (t243.size : Int) then (if (bt t243 127) = 87 then (if t246 = 3 then (if t248 = 3 then (if (t249 == 128 && (t250 == 2 && (t251 == 1 && (t252 == 0 && (t253 == 0))))) = true then (if t254 = 0 then (if t262 = 3 then (if bt266.2.2.2.2.2 = 3 then (if bt275.2.2.2.2.2 = 0 then ((meta_Tear.f (⟨#[97, 98, 99]⟩ : ByteArray) (⟨#[120, 121, 122]⟩ : ByteArray) 1).bind fun t282 => (if t282.toList = ([97, 121, 122] : List UInt8) then ((meta_Tear.f (⟨#[97, 98, 99]⟩ : ByteArray) (⟨#[120, 121, 122]⟩ : ByteArray) (-1)).bind fun t283 => (if t283.toList = ([120, 121, 122] : List UInt8) then ((meta_Tear.f (⟨#[97, 98, 99]⟩ : ByteArray) (⟨#[120, 121, 122]⟩ : ByteArray) 9).bind fun t284 => (if t284.toList = ([97, 98, 99] : List UInt8) then ((meta_Tear.f (⟨#[97]⟩ : ByteArray) (⟨#[]⟩ : ByteArray) 1).bind fun t285 => (if t285.toList = ([] : List UInt8) then ((meta_May.f 128 2 1 0 0).bind fun t286 => (if t286 = true then ((meta_May.f 100 2 1 0 0).bind fun t287 => (some (!t287))) else (none))) else (none))) else (none))) else (none))) else (none))) else (none)) else (none)) else (none)) else (none)) else (none)) else (none)) else (none)) else (none)) else (none)) else (none)) else (none)) else (none)) else (none)) else (none)) else (none)) else (none)))))) = some r := H
   have A16 := Aside0.mk A160
   clear A160
   replace H := bM H
   obtain ⟨⟨t266, t267, t268, t269, t270, t271⟩, A170, H⟩ := H
   replace H : ((withyref01_Repeat.f kj3 0 128).bind fun t273 => ((meta_Tear.f t243 t273 128).bind fun t274 => ((meta_Decode.f kj3 t274).bind fun bt275 => (if 0 < (t243.size : Int) then (if (bt t243 0) = 1 then (if 4 < (t243.size : Int) then (if (bt t243 4) = 1 then (if 16 ≤ 22 then (if 22 ≤ (t243.size : Int) then (if (t243.extract 16 22).toList = ([119, 105, 116, 104, 121, 128] : List UInt8) then (if 127 < (t243.size : Int) then (if (bt t243 127) = 87 then (if t246 = 3 then (if t248 = 3 then (if (t249 == 128 && (t250 == 2 && (t251 == 1 && (t252 == 0 && (t253 == 0))))) = true then (if t254 = 0 then (if t262 = 3 then (if t271 = 3 then (if bt275.2.2.2.2.2 = 0 then ((meta_Tear.f (⟨#[97, 98, 99]⟩ : ByteArray) (⟨#[120, 121, 122]⟩ : ByteArray) 1).bind fun t282 => (if t282.toList = ([97, 121, 122] : List UInt8) then ((meta_Tear.f (⟨#[97, 98, 99]⟩ : ByteArray) (⟨#[120, 121, 122]⟩ : ByteArray) (-1)).bind fun t283 => (if t283.toList = ([120, 121, 122] : List UInt8) then ((meta_Tear.f (⟨#[97, 98, 99]⟩ : ByteArray) (⟨#[120, 121, 122]⟩ : ByteArray) 9).bind fun t284 => (if t284.toList = ([97, 98, 99] : List UInt8) then ((meta_Tear.f (⟨#[97]⟩ : ByteArray) (⟨#[]⟩ : ByteArray) 1).bind fun t285 => (if t285.toList = ([] : List UInt8) then ((meta_May.f 128 2 1 0 0).bind fun t286 => (if t286 = true then ((meta_May.f 100 2 1 0 0).bind fun t287 => (some (!t287))) else (none))) else (none))) else (none))) else (none))) else (none))) else (none)) else (none)) else (none)) else (none)) else (none)) else (none)) else (none)) else (none)) else (none)) else (none)) else (none)) else (none)) else (none)) else (none)) else (none)) else (none))))) = some r := H
   have A17 := Aside0.mk A170
   clear A170
   replace H := bM H
   obtain ⟨t273, A180, H⟩ := H
   replace H : ((meta_Tear.f t243 t273 128).bind fun t274 => ((meta_Decode.f kj3 t274).bind fun bt275 => (if 0 < (t243.size : Int) then (if (bt t243 0) = 1 then (if 4 < (t243.size : Int) then (if (bt t243 4) = 1 then (if 16 ≤ 22 then (if 22 ≤ (t243.size : Int) then (if (t243.extract 16 22).toList = ([119, 105, 116, 104, 121, 128] : List UInt8) then (if 127 < (t243.size : Int) then (if (bt t243 127) = 87 then (if t246 = 3 then (if t248 = 3 then (if (t249 == 128 && (t250 == 2 && (t251 == 1 && (t252 == 0 && (t253 == 0))))) = true then (if t254 = 0 then (if t262 = 3 then (if t271 = 3 then (if bt275.2.2.2.2.2 = 0 then ((meta_Tear.f (⟨#[97, 98, 99]⟩ : ByteArray) (⟨#[120, 121, 122]⟩ : ByteArray) 1).bind fun t282 => (if t282.toList = ([97, 121, 122] : List UInt8) then ((meta_Tear.f (⟨#[97, 98, 99]⟩ : ByteArray) (⟨#[120, 121, 122]⟩ : ByteArray) (-1)).bind fun t283 => (if t283.toList = ([120, 121, 122] : List UInt8) then ((meta_Tear.f (⟨#[97, 98, 99]⟩ : ByteArray) (⟨#[120, 121, 122]⟩ : ByteArray) 9).bind fun t284 => (if t284.toList = ([97, 98, 99] : List UInt8) then ((meta_Tear.f (⟨#[97]⟩ : ByteArray) (⟨#[]⟩ : ByteArray) 1).bind fun t285 => (if t285.toList = ([] : List UInt8) then ((meta_May.f 128 2 1 0 0).bind fun t286 => (if t286 = true then ((meta_May.f 100 2 1 0 0).bind fun t287 => (some (!t287))) else (none))) else (none))) else (none))) else (none))) else (none))) else (none)) else (none)) else (none)) else (none)) else (none)) else (none)) else (none)) else (none)) else (none)) else (none)) else (none)) else (none)) else (none)) else (none)) else (none)) else (none)))) = some r := H
   have A18 := Aside0.mk A180
   clear A180
   replace H := bM H
   obtain ⟨t274, A190, H⟩ := H
   replace H : ((meta_Decode.f kj3 t274).bind fun bt275 => (if 0 < (t243.size : Int) then (if (bt t243 0) = 1 then (if 4 < (t243.size : Int) then (if (bt t243 4) = 1 then (if 16 ≤ 22 then (if 22 ≤ (t243.size : Int) then (if (t243.extract 16 22).toList = ([119, 105, 116, 104, 121, 128] : List UInt8) then (if 127 < (t243.size : Int) then (if (bt t243 127) = 87 then (if t246 = 3 then (if t248 = 3 then (if (t249 == 128 && (t250 == 2 && (t251 == 1 && (t252 == 0 && (t253 == 0))))) = true then (if t254 = 0 then (if t262 = 3 then (if t271 = 3 then (if bt275.2.2.2.2.2 = 0 then ((meta_Tear.f (⟨#[97, 98, 99]⟩ : ByteArray) (⟨#[120, 121, 122]⟩ : ByteArray) 1).bind fun t282 => (if t282.toList = ([97, 121, 122] : List UInt8) then ((meta_Tear.f (⟨#[97, 98, 99]⟩ : ByteArray) (⟨#[120, 121, 122]⟩ : ByteArray) (-1)).bind fun t283 => (if t283.toList = ([120, 121, 122] : List UInt8) then ((meta_Tear.f (⟨#[97, 98, 99]⟩ : ByteArray) (⟨#[120, 121, 122]⟩ : ByteArray) 9).bind fun t284 => (if t284.toList = ([97, 98, 99] : List UInt8) then ((meta_Tear.f (⟨#[97]⟩ : ByteArray) (⟨#[]⟩ : ByteArray) 1).bind fun t285 => (if t285.toList = ([] : List UInt8) then ((meta_May.f 128 2 1 0 0).bind fun t286 => (if t286 = true then ((meta_May.f 100 2 1 0 0).bind fun t287 => (some (!t287))) else (none))) else (none))) else (none))) else (none))) else (none))) else (none)) else (none)) else (none)) else (none)) else (none)) else (none)) else (none)) else (none)) else (none)) else (none)) else (none)) else (none)) else (none)) else (none)) else (none)) else (none))) = some r := H
   have A19 := Aside0.mk A190
   clear A190
   replace H := bM H
   obtain ⟨⟨t275, t276, t277, t278, t279, t280⟩, A200, H⟩ := H
   replace H : (if 0 < (t243.size : Int) then (if (bt t243 0) = 1 then (if 4 < (t243.size : Int) then (if (bt t243 4) = 1 then (if 16 ≤ 22 then (if 22 ≤ (t243.size : Int) then (if (t243.extract 16 22).toList = ([119, 105, 116, 104, 121, 128] : List UInt8) then (if 127 < (t243.size : Int) then (if (bt t243 127) = 87 then (if t246 = 3 then (if t248 = 3 then (if (t249 == 128 && (t250 == 2 && (t251 == 1 && (t252 == 0 && (t253 == 0))))) = true then (if t254 = 0 then (if t262 = 3 then (if t271 = 3 then (if t280 = 0 then ((meta_Tear.f (⟨#[97, 98, 99]⟩ : ByteArray) (⟨#[120, 121, 122]⟩ : ByteArray) 1).bind fun t282 => (if t282.toList = ([97, 121, 122] : List UInt8) then ((meta_Tear.f (⟨#[97, 98, 99]⟩ : ByteArray) (⟨#[120, 121, 122]⟩ : ByteArray) (-1)).bind fun t283 => (if t283.toList = ([120, 121, 122] : List UInt8) then ((meta_Tear.f (⟨#[97, 98, 99]⟩ : ByteArray) (⟨#[120, 121, 122]⟩ : ByteArray) 9).bind fun t284 => (if t284.toList = ([97, 98, 99] : List UInt8) then ((meta_Tear.f (⟨#[97]⟩ : ByteArray) (⟨#[]⟩ : ByteArray) 1).bind fun t285 => (if t285.toList = ([] : List UInt8) then ((meta_May.f 128 2 1 0 0).bind fun t286 => (if t286 = true then ((meta_May.f 100 2 1 0 0).bind fun t287 => (some (!t287))) else (none))) else (none))) else (none))) else (none))) else (none))) else (none)) else (none)) else (none)) else (none)) else (none)) else (none)) else (none)) else (none)) else (none)) else (none)) else (none)) else (none)) else (none)) else (none)) else (none)) else (none)) = some r := H
   have A20 := Aside0.mk A200
   clear A200
   by_cases c21 : 0 < (t243.size : Int)
   rotate_left
   ·rw [if_neg c21] at H
    exact absurd H (by simp)
 
   rw [if_pos c21] at H
   have c21b0 : decide (0 < (t243.size : Int)) = true := decide_eq_true c21
   have c21b1 : decide (0 < t243.size) = true := decide_eq_true (by omega)
   clear c21
   by_cases c23 : (bt t243 0) = 1
   rotate_left
   ·rw [if_neg c23] at H
    exact absurd H (by simp)
   rw [if_pos c23] at H
   have c23b0 : ((bt t243 0) == 1) = true := beq_iff_eq.mpr c23
   have c23b1 : ((bt t243 0) != 1) = false := bne_eq_false_iff_eq.mpr c23
   clear c23
   by_cases c24 : 4 < (t243.size : Int)
   rotate_left
   ·rw [if_neg c24] at H
    exact absurd H (by simp)
   rw [if_pos c24] at H
   have c24b0 : decide (4 < (t243.size : Int)) = true := decide_eq_true c24
   have c24b1 : decide (4 < t243.size) = true := decide_eq_true (by omega)
   clear c24
   by_cases c26 : (bt t243 4) = 1
   rotate_left
   ·rw [if_neg c26] at H
    exact absurd H (by simp)
   rw [if_pos c26] at H
   have c26b0 : ((bt t243 4) == 1) = true := beq_iff_eq.mpr c26
   have c26b1 : ((bt t243 4) != 1) = false := bne_eq_false_iff_eq.mpr c26
   clear c26
   by_cases c27 : 16 ≤ 22
   rotate_left
   ·rw [if_neg c27] at H
    exact absurd H (by simp)
   rw [if_pos c27] at H
   have c27b0 := eq_true c27
   have c27b1 : decide (16 ≤ 22) = true := decide_eq_true c27
   clear c27
   by_cases c28 : 22 ≤ (t243.size : Int)
   rotate_left
   ·rw [if_neg c28] at H
    exact absurd H (by simp)
   rw [if_pos c28] at H
   have c28b0 := eq_true c28
   have c28b1 : decide (22 ≤ (t243.size : Int)) = true := decide_eq_true c28
   clear c28
   obtain ⟨js29, hjs29⟩ : ∃ j_ : ByteArray, (t243.extract 16 22) = j_ := ⟨_, rfl⟩
   replace H : (if (js29).toList = ([119, 105, 116, 104, 121, 128] : List UInt8) then (if 127 < (t243.size : Int) then (if (bt t243 127) = 87 then (if t246 = 3 then (if t248 = 3 then (if (t249 == 128 && (t250 == 2 && (t251 == 1 && (t252 == 0 && (t253 == 0))))) = true then (if t254 = 0 then (if t262 = 3 then (if t271 = 3 then (if t280 = 0 then ((meta_Tear.f (⟨#[97, 98, 99]⟩ : ByteArray) (⟨#[120, 121, 122]⟩ : ByteArray) 1).bind fun t282 => (if t282.toList = ([97, 121, 122] : List UInt8) then ((meta_Tear.f (⟨#[97, 98, 99]⟩ : ByteArray) (⟨#[120, 121, 122]⟩ : ByteArray) (-1)).bind fun t283 => (if t283.toList = ([120, 121, 122] : List UInt8) then ((meta_Tear.f (⟨#[97, 98, 99]⟩ : ByteArray) (⟨#[120, 121, 122]⟩ : ByteArray) 9).bind fun t284 => (if t284.toList = ([97, 98, 99] : List UInt8) then ((meta_Tear.f (⟨#[97]⟩ : ByteArray) (⟨#[]⟩ : ByteArray) 1).bind fun t285 => (if t285.toList = ([] : List UInt8) then ((meta_May.f 128 2 1 0 0).bind fun t286 => (if t286 = true then ((meta_May.f 100 2 1 0 0).bind fun t287 => (some (!t287))) else (none))) else (none))) else (none))) else (none))) else (none))) else (none)) else (none)) else (none)) else (none)) else (none)) else (none)) else (none)) else (none)) else (none)) else (none)) = some r := by first | (rw [hjs29] at H; exact H) | (simp only [hjs29] at H ⊢; exact H)
   (try rw [hjs29] at A12)
   (try rw [hjs29] at A13)
   (try rw [hjs29] at A14)
   (try rw [hjs29] at A15)
   (try rw [hjs29] at A16)
   (try rw [hjs29] at A17)
   (try rw [hjs29] at A18)
   (try rw [hjs29] at A19)
   (try rw [hjs29] at A20)
   by_cases c30 : (js29).toList = ([119, 105, 116, 104, 121, 128] : List UInt8)
   rotate_left
   ·rw [if_neg c30] at H
    exact absurd H (by simp)
   rw [if_pos c30] at H
   have c30b0 : ((js29).toList == ([119, 105, 116, 104, 121, 128] : List UInt8)) = true := beq_iff_eq.mpr c30
   have c30b1 : ((js29).toList != ([119, 105, 116, 104, 121, 128] : List UInt8)) = false := bne_eq_false_iff_eq.mpr c30
   clear c30
   by_cases c31 : 127 < (t243.size : Int)
   rotate_left
   ·rw [if_neg c31] at H
    exact absurd H (by simp)
   rw [if_pos c31] at H
   have c31b0 : decide (127 < (t243.size : Int)) = true := decide_eq_true c31
   have c31b1 : decide (127 < t243.size) = true := decide_eq_true (by omega)
   clear c31
   by_cases c33 : (bt t243 127) = 87
   rotate_left
   ·rw [if_neg c33] at H
    exact absurd H (by simp)
   rw [if_pos c33] at H
   have c33b0 : ((bt t243 127) == 87) = true := beq_iff_eq.mpr c33
   have c33b1 : ((bt t243 127) != 87) = false := bne_eq_false_iff_eq.mpr c33
   clear c33
   by_cases c34 : t246 = 3
   rotate_left
   ·rw [if_neg c34] at H
    exact absurd H (by simp)
   rw [if_pos c34] at H
   have c34b0 : (t246 == 3) = true := beq_iff_eq.mpr c34
   have c34b1 : (t246 != 3) = false := bne_eq_false_iff_eq.mpr c34
   clear c34
   by_cases c35 : t248 = 3
   rotate_left
   ·rw [if_neg c35] at H
    exact absurd H (by simp)
   rw [if_pos c35] at H
   have c35b0 : (t248 == 3) = true := beq_iff_eq.mpr c35
   have c35b1 : (t248 != 3) = false := bne_eq_false_iff_eq.mpr c35
   clear c35
   by_cases c36 : (t249 == 128 && (t250 == 2 && (t251 == 1 && (t252 == 0 && (t253 == 0))))) = true
   rotate_left
   ·rw [if_neg c36] at H
    exact absurd H (by simp)
   rw [if_pos c36] at H
   have c36b0 : (t249 == 128 && (t250 == 2 && (t251 == 1 && (t252 == 0 && (t253 == 0))))) = true := c36
   (try (have c36b1 : t249 = 128 && (t250 == 2 && (t251 == 1 && (t252 == 0 && (t253 == 0)))) := by simpa using c36))
   (try (have c36b2 : decide (t249 = 128 && (t250 == 2 && (t251 == 1 && (t252 == 0 && (t253 == 0))))) = true := by simpa using c36))
   (try (have c36b3 : (t249 == 128 && (t250 == 2 && (t251 == 1 && (t252 == 0 && (t253 == 0))))) = true := by simpa using c36))
   clear c36
   by_cases c37 : t254 = 0
   rotate_left
   ·rw [if_neg c37] at H
    exact absurd H (by simp)
   rw [if_pos c37] at H
   have c37b0 : (t254 == 0) = true := beq_iff_eq.mpr c37
   have c37b1 : (t254 != 0) = false := bne_eq_false_iff_eq.mpr c37
   clear c37
   by_cases c38 : t262 = 3
   rotate_left
   ·rw [if_neg c38] at H
    exact absurd H (by simp)
   rw [if_pos c38] at H
   have c38b0 : (t262 == 3) = true := beq_iff_eq.mpr c38
   have c38b1 : (t262 != 3) = false := bne_eq_false_iff_eq.mpr c38
   clear c38
   by_cases c39 : t271 = 3
   rotate_left
   ·rw [if_neg c39] at H
    exact absurd H (by simp)
   rw [if_pos c39] at H
   have c39b0 : (t271 == 3) = true := beq_iff_eq.mpr c39
   have c39b1 : (t271 != 3) = false := bne_eq_false_iff_eq.mpr c39
   clear c39
   by_cases c40 : t280 = 0
   rotate_left
   ·rw [if_neg c40] at H
    exact absurd H (by simp)
   rw [if_pos c40] at H
   have c40b0 : (t280 == 0) = true := beq_iff_eq.mpr c40
   have c40b1 : (t280 != 0) = false := bne_eq_false_iff_eq.mpr c40
   clear c40
   replace H := bM H
   obtain ⟨t282, A410, H⟩ := H
   replace H : (if t282.toList = ([97, 121, 122] : List UInt8) then ((meta_Tear.f (⟨#[97, 98, 99]⟩ : ByteArray) (⟨#[120, 121, 122]⟩ : ByteArray) (-1)).bind fun t283 => (if t283.toList = ([120, 121, 122] : List UInt8) then ((meta_Tear.f (⟨#[97, 98, 99]⟩ : ByteArray) (⟨#[120, 121, 122]⟩ : ByteArray) 9).bind fun t284 => (if t284.toList = ([97, 98, 99] : List UInt8) then ((meta_Tear.f (⟨#[97]⟩ : ByteArray) (⟨#[]⟩ : ByteArray) 1).bind fun t285 => (if t285.toList = ([] : List UInt8) then ((meta_May.f 128 2 1 0 0).bind fun t286 => (if t286 = true then ((meta_May.f 100 2 1 0 0).bind fun t287 => (some (!t287))) else (none))) else (none))) else (none))) else (none))) else (none)) = some r := H
   have A41 := Aside0.mk A410
   clear A410
   by_cases c42 : t282.toList = ([97, 121, 122] : List UInt8)
   rotate_left
   ·rw [if_neg c42] at H
    exact absurd H (by simp)
   rw [if_pos c42] at H
   have c42b0 : (t282.toList == ([97, 121, 122] : List UInt8)) = true := beq_iff_eq.mpr c42
   have c42b1 : (t282.toList != ([97, 121, 122] : List UInt8)) = false := bne_eq_false_iff_eq.mpr c42
   clear c42
   replace H := bM H
   obtain ⟨t283, A430, H⟩ := H
   replace H : (if t283.toList = ([120, 121, 122] : List UInt8) then ((meta_Tear.f (⟨#[97, 98, 99]⟩ : ByteArray) (⟨#[120, 121, 122]⟩ : ByteArray) 9).bind fun t284 => (if t284.toList = ([97, 98, 99] : List UInt8) then ((meta_Tear.f (⟨#[97]⟩ : ByteArray) (⟨#[]⟩ : ByteArray) 1).bind fun t285 => (if t285.toList = ([] : List UInt8) then ((meta_May.f 128 2 1 0 0).bind fun t286 => (if t286 = true then ((meta_May.f 100 2 1 0 0).bind fun t287 => (some (!t287))) else (none))) else (none))) else (none))) else (none)) = some r := H
   have A43 := Aside0.mk A430
   clear A430
   by_cases c44 : t283.toList = ([120, 121, 122] : List UInt8)
   rotate_left
   ·rw [if_neg c44] at H
    exact absurd H (by simp)
   rw [if_pos c44] at H
   have c44b0 : (t283.toList == ([120, 121, 122] : List UInt8)) = true := beq_iff_eq.mpr c44
   have c44b1 : (t283.toList != ([120, 121, 122] : List UInt8)) = false := bne_eq_false_iff_eq.mpr c44
   clear c44
   replace H := bM H
   obtain ⟨t284, A450, H⟩ := H
   replace H : (if t284.toList = ([97, 98, 99] : List UInt8) then ((meta_Tear.f (⟨#[97]⟩ : ByteArray) (⟨#[]⟩ : ByteArray) 1).bind fun t285 => (if t285.toList = ([] : List UInt8) then ((meta_May.f 128 2 1 0 0).bind fun t286 => (if t286 = true then ((meta_May.f 100 2 1 0 0).bind fun t287 => (some (!t287))) else (none))) else (none))) else (none)) = some r := H
   have A45 := Aside0.mk A450
   clear A450
   by_cases c46 : t284.toList = ([97, 98, 99] : List UInt8)
   rotate_left
   ·rw [if_neg c46] at H
    exact absurd H (by simp)
   rw [if_pos c46] at H
   have c46b0 : (t284.toList == ([97, 98, 99] : List UInt8)) = true := beq_iff_eq.mpr c46
   have c46b1 : (t284.toList != ([97, 98, 99] : List UInt8)) = false := bne_eq_false_iff_eq.mpr c46
   clear c46
   replace H := bM H
   obtain ⟨t285, A470, H⟩ := H
   replace H : (if t285.toList = ([] : List UInt8) then ((meta_May.f 128 2 1 0 0).bind fun t286 => (if t286 = true then ((meta_May.f 100 2 1 0 0).bind fun t287 => (some (!t287))) else (none))) else (none)) = some r := H
   have A47 := Aside0.mk A470
   clear A470
   by_cases c48 : t285.toList = ([] : List UInt8)
   rotate_left
   ·rw [if_neg c48] at H
    exact absurd H (by simp)
   rw [if_pos c48] at H
   have c48b0 : (t285.toList == ([] : List UInt8)) = true := beq_iff_eq.mpr c48
   have c48b1 : (t285.toList != ([] : List UInt8)) = false := bne_eq_false_iff_eq.mpr c48
   clear c48
   replace H := bM H
   obtain ⟨t286, A490, H⟩ := H
   replace H : (if t286 = true then ((meta_May.f 100 2 1 0 0).bind fun t287 => (some (!t287))) else (none)) = some r := H
   have A49 := Aside0.mk A490
   clear A490
   by_cases c50 : t286 = true
   rotate_left
   ·replace c50 := Bool.eq_false_iff.mpr c50
    subst c50
    have H1 : (none) = some r := by rw [if_neg (show ¬ (false = true) by decide)] at H; exact H
    clear H
    have H := H1
    clear H1
    exact absurd H (by simp)
   subst c50
   have H1 : ((meta_May.f 100 2 1 0 0).bind fun t287 => (some (!t287))) = some r := by rw [if_pos rfl] at H; exact H
   clear H
   have H := H1
   clear H1
   replace H := bM H
   obtain ⟨t287, A510, H⟩ := H
   replace H : (some (!t287)) = some r := H
   have A51 := Aside0.mk A510
   clear A510
   obtain rfl := Option.some.inj H
   go_wp2_with (first | ((with_reducible refine gate_callee (f := 12) rfl ?_); refine goesL_ (some 41) rfl rfl Try.func12 (by kernel_rfl) rfl #[.string t243] rfl aO ?_; (with_reducible refine (meta_Decode.calls kj3 t243 t249 t250 t251 t252 t253 t254 _ A12.out).mono ?_); rintro e w52 ⟨rfl, hb⟩; refine ⟨_, rfl, ?_⟩; replace BK242 := bb BK242 hb; replace HB := as_ (below_step bA hb); (try clear hb); (try clear hb2); (try clear hk); (try clear hi)) | ((with_reducible refine gate_dst (N := 8) rfl ?_); (try (refine gate_guard (by rfl) ?_; dsimp only)); refine box_event (by rfl) (N := 8) (by rfl) (cs := #[.int .i64 0, .int .i64 0, .int .i64 0, .int .i64 0, .int .i64 0]) (t := 23) gS ?_; intro gb255 hg w53 hbox hb; have BK255 := as_ (hbox); have GW255 := gw hg bA; have GE255 := gw hg bA; have NB242_255 := nl BK242 hg; have NB255_242 := ng BK242 hg; replace BK242 := bb BK242 hb; replace HB := as_ (below_step bA hb); clear hb hbox hg; have hnb54 := NB255_242.out; have hnc54 := NB242_255.out; obtain ⟨hcz55_0, hcz55_1, hcz55_2, hcz55_3, hcz55_4⟩ := zc5 BK255; obtain ⟨hfz55_0, hfz55_1, hfz55_2, hfz55_3, hfz55_4⟩ := zf5 BK255) | ((with_reducible refine gate_callee (f := 19) rfl ?_); refine goesL_ (some 45) rfl rfl Try.func19 (by kernel_rfl) rfl #[.int .u8 0, .int .i64 128] rfl aO ?_; (with_reducible refine (withyref01_Repeat.calls kj3 0 128 t256 _ A13.out).mono ?_); rintro e w56 ⟨rfl, hb⟩; refine ⟨_, rfl, ?_⟩; have n0_ := as_ (blk_below (g := gb242) (o := .cells #[.int .i64 128, .int .i64 2, .int .i64 1, .int .i64 0, .int .i64 0] 23 (0, 0)) (by refine bx ?_; refine blk_far ?_ NB242_255.out _; refine bx ?_; refine blk_far ?_ NB242_255.out _; refine bx ?_; refine blk_far ?_ NB242_255.out _; refine bx ?_; refine blk_far ?_ NB242_255.out _; refine bx ?_; refine blk_far ?_ NB242_255.out _; refine bx ?_; exact BK242.out) hb); have n1_ := as_ (blk_below (g := gb255) (o := .cells #[.int .i64 t249, .int .i64 t250, .int .i64 t251, .int .i64 t252, .int .i64 t253] 23 (0, 0)) (by refine bx ?_; refine blk_put (cs := #[.int .i64 t249, .int .i64 t250, .int .i64 t251, .int .i64 t252, .int .i64 0]) ?_ 4 _ rfl; refine bx ?_; refine blk_put (cs := #[.int .i64 t249, .int .i64 t250, .int .i64 t251, .int .i64 0, .int .i64 0]) ?_ 3 _ rfl; refine bx ?_; refine blk_put (cs := #[.int .i64 t249, .int .i64 t250, .int .i64 0, .int .i64 0, .int .i64 0]) ?_ 2 _ rfl; refine bx ?_; refine blk_put (cs := #[.int .i64 t249, .int .i64 0, .int .i64 0, .int .i64 0, .int .i64 0]) ?_ 1 _ rfl; refine bx ?_; refine blk_put (cs := #[.int .i64 0, .int .i64 0, .int .i64 0, .int .i64 0, .int .i64 0]) ?_ 0 _ rfl; refine bx ?_; exact BK255.out) hb); have n2_ := as_ (below_step bA hb); clear BK242; clear BK255; clear HB; have BK242 := n0_; have BK255 := n1_; have HB := n2_; clear n0_ n1_ n2_; (try clear hb); (try clear hb2); (try clear hk); (try clear hi)) | ((with_reducible refine gate_callee (f := 12) rfl ?_); refine goesL_ (some 46) rfl rfl Try.func12 (by kernel_rfl) rfl #[.string t256] rfl aO ?_; (with_reducible refine (meta_Decode.calls kj3 t256 t257 t258 t259 t260 t261 t262 _ A14.out).mono ?_); rintro e w57 ⟨rfl, hb⟩; refine ⟨_, rfl, ?_⟩; replace BK242 := bb BK242 hb; replace BK255 := bb BK255 hb; replace HB := as_ (below_step bA hb); (try clear hb); (try clear hb2); (try clear hk); (try clear hi)) | ((with_reducible refine gate_dst (N := 10) rfl ?_); (try (refine gate_guard (by rfl) ?_; dsimp only)); refine box_event (by rfl) (N := 10) (by rfl) (cs := #[.int .i64 0, .int .i64 0, .int .i64 0, .int .i64 0, .int .i64 0]) (t := 23) gS ?_; intro gb263 hg w58 hbox hb; have BK263 := as_ (hbox); have GW263 := gw hg bA; have GE263 := gw hg bA; have NB242_263 := nl BK242 hg; have NB263_242 := ng BK242 hg; have NB255_263 := nl BK255 hg; have NB263_255 := ng BK255 hg; replace BK242 := bb BK242 hb; replace BK255 := bb BK255 hb; replace HB := as_ (below_step bA hb); clear hb hbox hg; have hnb59 := NB263_242.out; have hnc59 := NB242_263.out; have hnb60 := NB263_255.out; have hnc60 := NB255_263.out; obtain ⟨hcz61_0, hcz61_1, hcz61_2, hcz61_3, hcz61_4⟩ := zc5 BK263; obtain ⟨hfz61_0, hfz61_1, hfz61_2, hfz61_3, hfz61_4⟩ := zf5 BK263) | ((with_reducible refine gate_callee (f := 19) rfl ?_); refine goesL_ (some 51) rfl rfl Try.func19 (by kernel_rfl) rfl #[.int .u8 0, .int .i64 128] rfl aO ?_; (with_reducible refine (withyref01_Repeat.calls kj3 0 128 t264 _ A15.out).mono ?_); rintro e w62 ⟨rfl, hb⟩; refine ⟨_, rfl, ?_⟩; have n0_ := as_ (blk_below (g := gb242) (o := .cells #[.int .i64 128, .int .i64 2, .int .i64 1, .int .i64 0, .int .i64 0] 23 (0, 0)) (by refine bx ?_; refine blk_far ?_ NB242_263.out _; refine bx ?_; refine blk_far ?_ NB242_263.out _; refine bx ?_; refine blk_far ?_ NB242_263.out _; refine bx ?_; refine blk_far ?_ NB242_263.out _; refine bx ?_; refine blk_far ?_ NB242_263.out _; refine bx ?_; exact BK242.out) hb); have n1_ := as_ (blk_below (g := gb255) (o := .cells #[.int .i64 t249, .int .i64 t250, .int .i64 t251, .int .i64 t252, .int .i64 t253] 23 (0, 0)) (by refine bx ?_; refine blk_far ?_ NB255_263.out _; refine bx ?_; refine blk_far ?_ NB255_263.out _; refine bx ?_; refine blk_far ?_ NB255_263.out _; refine bx ?_; refine blk_far ?_ NB255_263.out _; refine bx ?_; refine blk_far ?_ NB255_263.out _; refine bx ?_; exact BK255.out) hb); have n2_ := as_ (blk_below (g := gb263) (o := .cells #[.int .i64 t257, .int .i64 t258, .int .i64 t259, .int .i64 t260, .int .i64 t261] 23 (0, 0)) (by refine bx ?_; refine blk_put (cs := #[.int .i64 t257, .int .i64 t258, .int .i64 t259, .int .i64 t260, .int .i64 0]) ?_ 4 _ rfl; refine bx ?_; refine blk_put (cs := #[.int .i64 t257, .int .i64 t258, .int .i64 t259, .int .i64 0, .int .i64 0]) ?_ 3 _ rfl; refine bx ?_; refine blk_put (cs := #[.int .i64 t257, .int .i64 t258, .int .i64 0, .int .i64 0, .int .i64 0]) ?_ 2 _ rfl; refine bx ?_; refine blk_put (cs := #[.int .i64 t257, .int .i64 0, .int .i64 0, .int .i64 0, .int .i64 0]) ?_ 1 _ rfl; refine bx ?_; refine blk_put (cs := #[.int .i64 0, .int .i64 0, .int .i64 0, .int .i64 0, .int .i64 0]) ?_ 0 _ rfl; refine bx ?_; exact BK263.out) hb); have n3_ := as_ (below_step bA hb); clear BK242; clear BK255; clear BK263; clear HB; have BK242 := n0_; have BK255 := n1_; have BK263 := n2_; have HB := n3_; clear n0_ n1_ n2_ n3_; (try clear hb); (try clear hb2); (try clear hk); (try clear hi)) | ((with_reducible refine gate_callee (f := 16) rfl ?_); refine goesL_ (some 52) rfl rfl Try.func16 (by kernel_rfl) rfl #[.string t243, .string t264, .int .i64 127] rfl aO ?_; (with_reducible refine (meta_Tear.calls t243 t264 127 t265 _ A16.out).mono ?_); rintro e w63 ⟨rfl, hb⟩; refine ⟨_, rfl, ?_⟩; replace BK242 := bb BK242 hb; replace BK255 := bb BK255 hb; replace BK263 := bb BK263 hb; replace HB := as_ (below_step bA hb); (try clear hb); (try clear hb2); (try clear hk); (try clear hi)) | ((with_reducible refine gate_callee (f := 12) rfl ?_); refine goesL_ (some 53) rfl rfl Try.func12 (by kernel_rfl) rfl #[.string t265] rfl aO ?_; (with_reducible refine (meta_Decode.calls kj3 t265 t266 t267 t268 t269 t270 t271 _ A17.out).mono ?_); rintro e w64 ⟨rfl, hb⟩; refine ⟨_, rfl, ?_⟩; replace BK242 := bb BK242 hb; replace BK255 := bb BK255 hb; replace BK263 := bb BK263 hb; replace HB := as_ (below_step bA hb); (try clear hb); (try clear hb2); (try clear hk); (try clear hi)) | ((with_reducible refine gate_dst (N := 12) rfl ?_); (try (refine gate_guard (by rfl) ?_; dsimp only)); refine box_event (by rfl) (N := 12) (by rfl) (cs := #[.int .i64 0, .int .i64 0, .int .i64 0, .int .i64 0, .int .i64 0]) (t := 23) gS ?_; intro gb272 hg w65 hbox hb; have BK272 := as_ (hbox); have GW272 := gw hg bA; have GE272 := gw hg bA; have NB242_272 := nl BK242 hg; have NB272_242 := ng BK242 hg; have NB255_272 := nl BK255 hg; have NB272_255 := ng BK255 hg; have NB263_272 := nl BK263 hg; have NB272_263 := ng BK263 hg; replace BK242 := bb BK242 hb; replace BK255 := bb BK255 hb; replace BK263 := bb BK263 hb; replace HB := as_ (below_step bA hb); clear hb hbox hg; have hnb66 := NB272_242.out; have hnc66 := NB242_272.out; have hnb67 := NB272_255.out; have hnc67 := NB255_272.out; have hnb68 := NB272_263.out; have hnc68 := NB263_272.out; obtain ⟨hcz69_0, hcz69_1, hcz69_2, hcz69_3, hcz69_4⟩ := zc5 BK272; obtain ⟨hfz69_0, hfz69_1, hfz69_2, hfz69_3, hfz69_4⟩ := zf5 BK272) | ((with_reducible refine gate_callee (f := 19) rfl ?_); refine goesL_ (some 58) rfl rfl Try.func19 (by kernel_rfl) rfl #[.int .u8 0, .int .i64 128] rfl aO ?_; (with_reducible refine (withyref01_Repeat.calls kj3 0 128 t273 _ A18.out).mono ?_); rintro e w70 ⟨rfl, hb⟩; refine ⟨_, rfl, ?_⟩; have n0_ := as_ (blk_below (g := gb242) (o := .cells #[.int .i64 128, .int .i64 2, .int .i64 1, .int .i64 0, .int .i64 0] 23 (0, 0)) (by refine bx ?_; refine blk_far ?_ NB242_272.out _; refine bx ?_; refine blk_far ?_ NB242_272.out _; refine bx ?_; refine blk_far ?_ NB242_272.out _; refine bx ?_; refine blk_far ?_ NB242_272.out _; refine bx ?_; refine blk_far ?_ NB242_272.out _; refine bx ?_; exact BK242.out) hb); have n1_ := as_ (blk_below (g := gb255) (o := .cells #[.int .i64 t249, .int .i64 t250, .int .i64 t251, .int .i64 t252, .int .i64 t253] 23 (0, 0)) (by refine bx ?_; refine blk_far ?_ NB255_272.out _; refine bx ?_; refine blk_far ?_ NB255_272.out _; refine bx ?_; refine blk_far ?_ NB255_272.out _; refine bx ?_; refine blk_far ?_ NB255_272.out _; refine bx ?_; refine blk_far ?_ NB255_272.out _; refine bx ?_; exact BK255.out) hb); have n2_ := as_ (blk_below (g := gb263) (o := .cells #[.int .i64 t257, .int .i64 t258, .int .i64 t259, .int .i64 t260, .int .i64 t261] 23 (0, 0)) (by refine bx ?_; refine blk_far ?_ NB263_272.out _; refine bx ?_; refine blk_far ?_ NB263_272.out _; refine bx ?_; refine blk_far ?_ NB263_272.out _; refine bx ?_; refine blk_far ?_ NB263_272.out _; refine bx ?_; refine blk_far ?_ NB263_272.out _; refine bx ?_; exact BK263.out) hb); have n3_ := as_ (blk_below (g := gb272) (o := .cells #[.int .i64 t266, .int .i64 t267, .int .i64 t268, .int .i64 t269, .int .i64 t270] 23 (0, 0)) (by refine bx ?_; refine blk_put (cs := #[.int .i64 t266, .int .i64 t267, .int .i64 t268, .int .i64 t269, .int .i64 0]) ?_ 4 _ rfl; refine bx ?_; refine blk_put (cs := #[.int .i64 t266, .int .i64 t267, .int .i64 t268, .int .i64 0, .int .i64 0]) ?_ 3 _ rfl; refine bx ?_; refine blk_put (cs := #[.int .i64 t266, .int .i64 t267, .int .i64 0, .int .i64 0, .int .i64 0]) ?_ 2 _ rfl; refine bx ?_; refine blk_put (cs := #[.int .i64 t266, .int .i64 0, .int .i64 0, .int .i64 0, .int .i64 0]) ?_ 1 _ rfl; refine bx ?_; refine blk_put (cs := #[.int .i64 0, .int .i64 0, .int .i64 0, .int .i64 0, .int .i64 0]) ?_ 0 _ rfl; refine bx ?_; exact BK272.out) hb); have n4_ := as_ (below_step bA hb); clear BK242; clear BK255; clear BK263; clear BK272; clear HB; have BK242 := n0_; have BK255 := n1_; have BK263 := n2_; have BK272 := n3_; have HB := n4_; clear n0_ n1_ n2_ n3_ n4_; (try clear hb); (try clear hb2); (try clear hk); (try clear hi)) | ((with_reducible refine gate_callee (f := 16) rfl ?_); refine goesL_ (some 59) rfl rfl Try.func16 (by kernel_rfl) rfl #[.string t243, .string t273, .int .i64 128] rfl aO ?_; (with_reducible refine (meta_Tear.calls t243 t273 128 t274 _ A19.out).mono ?_); rintro e w71 ⟨rfl, hb⟩; refine ⟨_, rfl, ?_⟩; replace BK242 := bb BK242 hb; replace BK255 := bb BK255 hb; replace BK263 := bb BK263 hb; replace BK272 := bb BK272 hb; replace HB := as_ (below_step bA hb); (try clear hb); (try clear hb2); (try clear hk); (try clear hi)) | ((with_reducible refine gate_callee (f := 12) rfl ?_); refine goesL_ (some 60) rfl rfl Try.func12 (by kernel_rfl) rfl #[.string t274] rfl aO ?_; (with_reducible refine (meta_Decode.calls kj3 t274 t275 t276 t277 t278 t279 t280 _ A20.out).mono ?_); rintro e w72 ⟨rfl, hb⟩; refine ⟨_, rfl, ?_⟩; replace BK242 := bb BK242 hb; replace BK255 := bb BK255 hb; replace BK263 := bb BK263 hb; replace BK272 := bb BK272 hb; replace HB := as_ (below_step bA hb); (try clear hb); (try clear hb2); (try clear hk); (try clear hi)) | ((with_reducible refine gate_dst (N := 14) rfl ?_); (try (refine gate_guard (by rfl) ?_; dsimp only)); refine box_event (by rfl) (N := 14) (by rfl) (cs := #[.int .i64 0, .int .i64 0, .int .i64 0, .int .i64 0, .int .i64 0]) (t := 23) gS ?_; intro gb281 hg w73 hbox hb; have BK281 := as_ (hbox); have GW281 := gw hg bA; have GE281 := gw hg bA; have NB242_281 := nl BK242 hg; have NB281_242 := ng BK242 hg; have NB255_281 := nl BK255 hg; have NB281_255 := ng BK255 hg; have NB263_281 := nl BK263 hg; have NB281_263 := ng BK263 hg; have NB272_281 := nl BK272 hg; have NB281_272 := ng BK272 hg; replace BK242 := bb BK242 hb; replace BK255 := bb BK255 hb; replace BK263 := bb BK263 hb; replace BK272 := bb BK272 hb; replace HB := as_ (below_step bA hb); clear hb hbox hg; have hnb74 := NB281_242.out; have hnc74 := NB242_281.out; have hnb75 := NB281_255.out; have hnc75 := NB255_281.out; have hnb76 := NB281_263.out; have hnc76 := NB263_281.out; have hnb77 := NB281_272.out; have hnc77 := NB272_281.out; obtain ⟨hcz78_0, hcz78_1, hcz78_2, hcz78_3, hcz78_4⟩ := zc5 BK281; obtain ⟨hfz78_0, hfz78_1, hfz78_2, hfz78_3, hfz78_4⟩ := zf5 BK281; have p22 : 0 ≤ (0 : Int) := (by omega); have q22 : 0 < t243.size := (by have : (0 : Int) < (t243.size : Int) := of_decide_eq_true aM; omega); have hx22 : ∀ h : 0 < t243.size, ((t243[0]'h).toNat : Int) = bt t243 0 := bt_at t243 0; clear p22; have qi22 : (0 < (t243.size : Int)) = True := eq_true (of_decide_eq_true aM); replace q22 := eq_true q22; have p25 : 0 ≤ (4 : Int) := (by omega); have q25 : 4 < t243.size := (by have : (4 : Int) < (t243.size : Int) := of_decide_eq_true aM; omega); have hx25 : ∀ h : 4 < t243.size, ((t243[4]'h).toNat : Int) = bt t243 4 := bt_at t243 4; clear p25; have qi25 : (4 < (t243.size : Int)) = True := eq_true (of_decide_eq_true aM); replace q25 := eq_true q25; have p32 : 0 ≤ (127 : Int) := (by omega); have q32 : 127 < t243.size := (by have : (127 : Int) < (t243.size : Int) := of_decide_eq_true aM; omega); have hx32 : ∀ h : 127 < t243.size, ((t243[127]'h).toNat : Int) = bt t243 127 := bt_at t243 127; clear p32; have qi32 : (127 < (t243.size : Int)) = True := eq_true (of_decide_eq_true aM); replace q32 := eq_true q32; obtain ⟨hcz79_0, hcz79_1, hcz79_2, hcz79_3, hcz79_4⟩ := zc5 BK255; obtain ⟨hfz79_0, hfz79_1, hfz79_2, hfz79_3, hfz79_4⟩ := zf5 BK255; obtain ⟨hcz80_0, hcz80_1, hcz80_2, hcz80_3, hcz80_4⟩ := zc5 BK242; obtain ⟨hfz80_0, hfz80_1, hfz80_2, hfz80_3, hfz80_4⟩ := zf5 BK242) | (go_at_call 16; (with_reducible refine (meta_Tear.calls (⟨#[97, 98, 99]⟩ : ByteArray) (⟨#[120, 121, 122]⟩ : ByteArray) 1 t282 _ A41.out).mono ?_); rintro e w81 ⟨rfl, hb⟩; have n0_ := as_ (blk_below (g := gb242) (o := .cells #[.int .i64 128, .int .i64 2, .int .i64 1, .int .i64 0, .int .i64 0] 23 (0, 0)) (by refine bx ?_; refine blk_far ?_ NB242_281.out _; refine bx ?_; refine blk_far ?_ NB242_281.out _; refine bx ?_; refine blk_far ?_ NB242_281.out _; refine bx ?_; refine blk_far ?_ NB242_281.out _; refine bx ?_; refine blk_far ?_ NB242_281.out _; refine bx ?_; exact BK242.out) hb); have n1_ := as_ (blk_below (g := gb255) (o := .cells #[.int .i64 t249, .int .i64 t250, .int .i64 t251, .int .i64 t252, .int .i64 t253] 23 (0, 0)) (by refine bx ?_; refine blk_far ?_ NB255_281.out _; refine bx ?_; refine blk_far ?_ NB255_281.out _; refine bx ?_; refine blk_far ?_ NB255_281.out _; refine bx ?_; refine blk_far ?_ NB255_281.out _; refine bx ?_; refine blk_far ?_ NB255_281.out _; refine bx ?_; exact BK255.out) hb); have n2_ := as_ (blk_below (g := gb263) (o := .cells #[.int .i64 t257, .int .i64 t258, .int .i64 t259, .int .i64 t260, .int .i64 t261] 23 (0, 0)) (by refine bx ?_; refine blk_far ?_ NB263_281.out _; refine bx ?_; refine blk_far ?_ NB263_281.out _; refine bx ?_; refine blk_far ?_ NB263_281.out _; refine bx ?_; refine blk_far ?_ NB263_281.out _; refine bx ?_; refine blk_far ?_ NB263_281.out _; refine bx ?_; exact BK263.out) hb); have n3_ := as_ (blk_below (g := gb272) (o := .cells #[.int .i64 t266, .int .i64 t267, .int .i64 t268, .int .i64 t269, .int .i64 t270] 23 (0, 0)) (by refine bx ?_; refine blk_far ?_ NB272_281.out _; refine bx ?_; refine blk_far ?_ NB272_281.out _; refine bx ?_; refine blk_far ?_ NB272_281.out _; refine bx ?_; refine blk_far ?_ NB272_281.out _; refine bx ?_; refine blk_far ?_ NB272_281.out _; refine bx ?_; exact BK272.out) hb); have n4_ := as_ (blk_below (g := gb281) (o := .cells #[.int .i64 t275, .int .i64 t276, .int .i64 t277, .int .i64 t278, .int .i64 t279] 23 (0, 0)) (by refine bx ?_; refine blk_put (cs := #[.int .i64 t275, .int .i64 t276, .int .i64 t277, .int .i64 t278, .int .i64 0]) ?_ 4 _ rfl; refine bx ?_; refine blk_put (cs := #[.int .i64 t275, .int .i64 t276, .int .i64 t277, .int .i64 0, .int .i64 0]) ?_ 3 _ rfl; refine bx ?_; refine blk_put (cs := #[.int .i64 t275, .int .i64 t276, .int .i64 0, .int .i64 0, .int .i64 0]) ?_ 2 _ rfl; refine bx ?_; refine blk_put (cs := #[.int .i64 t275, .int .i64 0, .int .i64 0, .int .i64 0, .int .i64 0]) ?_ 1 _ rfl; refine bx ?_; refine blk_put (cs := #[.int .i64 0, .int .i64 0, .int .i64 0, .int .i64 0, .int .i64 0]) ?_ 0 _ rfl; refine bx ?_; exact BK281.out) hb); have n5_ := as_ (below_step bA hb); clear BK242; clear BK255; clear BK263; clear BK272; clear BK281; clear HB; have BK242 := n0_; have BK255 := n1_; have BK263 := n2_; have BK272 := n3_; have BK281 := n4_; have HB := n5_; clear n0_ n1_ n2_ n3_ n4_ n5_; (try clear hb); (try clear hb2); (try clear hk); (try clear hi)) | (go_at_call 16; (with_reducible refine (meta_Tear.calls (⟨#[97, 98, 99]⟩ : ByteArray) (⟨#[120, 121, 122]⟩ : ByteArray) (-1) t283 _ A43.out).mono ?_); rintro e w82 ⟨rfl, hb⟩; replace BK242 := bb BK242 hb; replace BK255 := bb BK255 hb; replace BK263 := bb BK263 hb; replace BK272 := bb BK272 hb; replace BK281 := bb BK281 hb; replace HB := as_ (below_step bA hb); (try clear hb); (try clear hb2); (try clear hk); (try clear hi)) | (go_at_call 16; (with_reducible refine (meta_Tear.calls (⟨#[97, 98, 99]⟩ : ByteArray) (⟨#[120, 121, 122]⟩ : ByteArray) 9 t284 _ A45.out).mono ?_); rintro e w83 ⟨rfl, hb⟩; replace BK242 := bb BK242 hb; replace BK255 := bb BK255 hb; replace BK263 := bb BK263 hb; replace BK272 := bb BK272 hb; replace BK281 := bb BK281 hb; replace HB := as_ (below_step bA hb); (try clear hb); (try clear hb2); (try clear hk); (try clear hi)) | (go_at_call 16; (with_reducible refine (meta_Tear.calls (⟨#[97]⟩ : ByteArray) (⟨#[]⟩ : ByteArray) 1 t285 _ A47.out).mono ?_); rintro e w84 ⟨rfl, hb⟩; replace BK242 := bb BK242 hb; replace BK255 := bb BK255 hb; replace BK263 := bb BK263 hb; replace BK272 := bb BK272 hb; replace BK281 := bb BK281 hb; replace HB := as_ (below_step bA hb); (try clear hb); (try clear hb2); (try clear hk); (try clear hi); obtain ⟨hcz85_0, hcz85_1, hcz85_2, hcz85_3, hcz85_4⟩ := zc5 BK242; obtain ⟨hfz85_0, hfz85_1, hfz85_2, hfz85_3, hfz85_4⟩ := zf5 BK242) | (go_at_call 14; (with_reducible refine (meta_May.calls 128 2 1 0 0 true _ A49.out).mono ?_); rintro e w86 ⟨rfl, hb⟩; replace BK242 := bb BK242 hb; replace BK255 := bb BK255 hb; replace BK263 := bb BK263 hb; replace BK272 := bb BK272 hb; replace BK281 := bb BK281 hb; replace HB := as_ (below_step bA hb); (try clear hb); (try clear hb2); (try clear hk); (try clear hi)) | (go_at_call 14; (with_reducible refine (meta_May.calls 100 2 1 0 0 t287 _ A51.out).mono ?_); rintro e w87 ⟨rfl, hb⟩; replace BK242 := bb BK242 hb; replace BK255 := bb BK255 hb; replace BK263 := bb BK263 hb; replace BK272 := bb BK272 hb; replace BK281 := bb BK281 hb; replace HB := as_ (below_step bA hb); (try clear hb); (try clear hb2); (try clear hk); (try clear hi)))
   go_ret
   exact ⟨by first | rfl | (simp [errW_none, errW_some] <;> rfl) | (simp only [← hjs29]; first | rfl | (simp [errW_none, errW_some] <;> rfl)) | (simp [*, errW_none, errW_some] <;> rfl), by repeat (first | (with_reducible first | exact HB.out | apply below_alloc | apply pw_below_drewN | apply below_drew1 | refine below_set ?_ GE242.out | refine below_set ?_ GE255.out | refine below_set ?_ GE263.out | refine below_set ?_ GE272.out | refine below_set ?_ GE281.out) | exact HB.out)⟩
end Go.Proofs.Ytnkndnpnjbcaoaa.P
