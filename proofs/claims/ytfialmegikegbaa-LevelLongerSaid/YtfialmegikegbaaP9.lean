/- What is proved here: for functions of the Go text, a Lean function each, and that the call comes to just what it answers. Conditions: as each contract names them. Written by wip/tools/myprint.py, a driver of the print of the kit. -/
import Derived.Test.YtfialmegikegbaaP0
import Derived.Test.YtfialmegikegbaaP1
import Derived.Test.YtfialmegikegbaaP3
import Derived.Test.YtfialmegikegbaaP5
import Derived.Test.YtfialmegikegbaaP7
import Derived.Test.YtfialmegikegbaaWAbbr
namespace Go.Proofs.Ytfialmegikegbaa.P
open Go.RowKit Go.Proofs.YtfialmegikegbaaW.PrintWords Go.Proofs.YtfialmegikegbaaW.PrintLast Go.Proofs.YtfialmegikegbaaW.PrintMore Go.Proofs.YtfialmegikegbaaW.Abbr
-- PACKED
attribute [local go_sem] max2_int min2_int max_two min_two max_three min_three max_four min_four Go.Proofs.YtfialmegikegbaaLaws.str_leq Go.Proofs.YtfialmegikegbaaLaws.str_gtr Go.Proofs.YtfialmegikegbaaLaws.str_geq Go.Proofs.YtfialmegikegbaaLaws.max2_str Go.Proofs.YtfialmegikegbaaLaws.min2_str   -- for this text's walks alone
set_option linter.unusedVariables false
set_option linter.unusedSimpArgs false

/-! ### withylaw17_LevelLast: function 7 -/
mutual
def withylaw17_LevelLast.l0 : Nat → List ByteArray → Int → List Int → Int → Int → Int → Option (Bool)
 | 0, _, _, _, _, _, _ => none
 | k + 1, x0, x7, x8, x9, x10, x11 => if x11 < x9 then (if 0 ≤ x11 then (if x11 < (x8.length : Int) then (withylaw17_LevelLast.l0 k x0 x7 x8 x9 (wrap64 (x10 + (rd x8 x11))) (wrap64 (x11 + 1))) else (none)) else (none)) else (if x10 < 0 then (withylaw17_LevelLast.j1 k x0 x7 x8 x9 x10 true) else (if x10 > (x0.length : Int) then (withylaw17_LevelLast.j1 k x0 x7 x8 x9 x10 true) else ((withyref17_Right.f k x0 x7).bind fun t586 => (withylaw17_LevelLast.j1 k x0 x7 x8 x9 x10 (!t586)))))
def withylaw17_LevelLast.j1 : Nat → List ByteArray → Int → List Int → Int → Int → Bool → Option (Bool)
 | 0, _, _, _, _, _, _ => none
 | k + 1, x0, x7, x8, x9, x10, x52 => if x52 = true then (none) else (if 0 ≤ x10 then (if x10 ≤ (x0.length : Int) then ((level_Group.f k (x0.drop (x10 : Int).toNat) x7).bind fun t591 => (if 0 ≤ x9 then (if x9 ≤ (x8.length : Int) then ((withyref01_Ints.f k t591 (x8.drop (x9 : Int).toNat)).bind fun t598 => (if t598 = true then ((withylaw17_fixed.f k).bind fun t599 => (some t599)) else (none))) else (none)) else (none))) else (none)) else (none))
end
def withylaw17_LevelLast.f (k : Nat) (l0 : List ByteArray) (a1 : Int) (a2 : Int) : Option (Bool) := (withylaw16_Size.f a1).bind fun t578 => ((withylaw17_Rise.f k l0 t578).bind fun t579 => ((level_Group.f k t579 t578).bind fun t582 => (if (t582.length : Int) = 0 then (none) else (withylaw17_LevelLast.l0 k t579 t578 t582 (Int.tmod (wrap64 (a2)) (t582.length : Int)) 0 0))))
theorem withylaw17_LevelLast.mono_l : ∀ k, (∀ y0 y1 y2 y3 y4 y5, LeO (withylaw17_LevelLast.l0 k y0 y1 y2 y3 y4 y5) (withylaw17_LevelLast.l0 (k + 1) y0 y1 y2 y3 y4 y5)) ∧ (∀ y0 y1 y2 y3 y4 y5, LeO (withylaw17_LevelLast.j1 k y0 y1 y2 y3 y4 y5) (withylaw17_LevelLast.j1 (k + 1) y0 y1 y2 y3 y4 y5))
 | 0 => ⟨fun _ _ _ _ _ _ r h => by simp [withylaw17_LevelLast.l0] at h, fun _ _ _ _ _ _ r h => by simp [withylaw17_LevelLast.j1] at h⟩
 | k + 1 => by
  obtain ⟨ih0, ih1⟩ := withylaw17_LevelLast.mono_l k
  refine ⟨?_, ?_⟩
  ·intro y0 y1 y2 y3 y4 y5
   unfold withylaw17_LevelLast.l0
   repeat' first
   | (with_reducible exact ih0 _ _ _ _ _ _)
   | (with_reducible exact ih1 _ _ _ _ _ _)
   | (with_reducible exact level_Group.mono _ _ _)
   | (with_reducible exact withylaw17_Rise.mono _ _ _)
   | (with_reducible exact withylaw17_fixed.mono _)
   | (with_reducible exact withyref01_Ints.mono _ _ _)
   | (with_reducible exact withyref17_Right.mono _ _ _)
   | (with_reducible exact LeO.refl _)
   | (with_reducible exact LeO.none _)
   | (with_reducible refine LeO.ite ?_ ?_)
   | (with_reducible refine LeO.bind ?_ (fun _ => ?_))
   | exact ih0 _ _ _ _ _ _
   | exact ih1 _ _ _ _ _ _
   | exact level_Group.mono _ _ _
   | exact withylaw17_Rise.mono _ _ _
   | exact withylaw17_fixed.mono _
   | exact withyref01_Ints.mono _ _ _
   | exact withyref17_Right.mono _ _ _
   | exact LeO.none _
   | refine LeO.ite ?_ ?_
   | refine LeO.bind ?_ (fun _ => ?_)
  ·intro y0 y1 y2 y3 y4 y5
   unfold withylaw17_LevelLast.j1
   repeat' first
   | (with_reducible exact ih0 _ _ _ _ _ _)
   | (with_reducible exact ih1 _ _ _ _ _ _)
   | (with_reducible exact level_Group.mono _ _ _)
   | (with_reducible exact withylaw17_Rise.mono _ _ _)
   | (with_reducible exact withylaw17_fixed.mono _)
   | (with_reducible exact withyref01_Ints.mono _ _ _)
   | (with_reducible exact withyref17_Right.mono _ _ _)
   | (with_reducible exact LeO.refl _)
   | (with_reducible exact LeO.none _)
   | (with_reducible refine LeO.ite ?_ ?_)
   | (with_reducible refine LeO.bind ?_ (fun _ => ?_))
   | exact ih0 _ _ _ _ _ _
   | exact ih1 _ _ _ _ _ _
   | exact level_Group.mono _ _ _
   | exact withylaw17_Rise.mono _ _ _
   | exact withylaw17_fixed.mono _
   | exact withyref01_Ints.mono _ _ _
   | exact withyref17_Right.mono _ _ _
   | exact LeO.none _
   | refine LeO.ite ?_ ?_
   | refine LeO.bind ?_ (fun _ => ?_)
theorem withylaw17_LevelLast.mono : ∀ a0 a1 a2 k, LeO (withylaw17_LevelLast.f k a0 a1 a2) (withylaw17_LevelLast.f (k + 1) a0 a1 a2) := by
 intro a0 a1 a2 k
 obtain ⟨ih0, ih1⟩ := withylaw17_LevelLast.mono_l k
 unfold withylaw17_LevelLast.f
 repeat' first
   | (with_reducible exact ih0 _ _ _ _ _ _)
   | (with_reducible exact ih1 _ _ _ _ _ _)
   | (with_reducible exact level_Group.mono _ _ _)
   | (with_reducible exact withylaw17_Rise.mono _ _ _)
   | (with_reducible exact withylaw17_fixed.mono _)
   | (with_reducible exact withyref01_Ints.mono _ _ _)
   | (with_reducible exact withyref17_Right.mono _ _ _)
   | (with_reducible exact LeO.refl _)
   | (with_reducible exact LeO.none _)
   | (with_reducible refine LeO.ite ?_ ?_)
   | (with_reducible refine LeO.bind ?_ (fun _ => ?_))
   | exact ih0 _ _ _ _ _ _
   | exact ih1 _ _ _ _ _ _
   | exact level_Group.mono _ _ _
   | exact withylaw17_Rise.mono _ _ _
   | exact withylaw17_fixed.mono _
   | exact withyref01_Ints.mono _ _ _
   | exact withyref17_Right.mono _ _ _
   | exact LeO.none _
   | refine LeO.ite ?_ ?_
   | refine LeO.bind ?_ (fun _ => ?_)
def withylaw17_LevelLast.T13 : Bool × List (List Nat × List Nat) := (true, [([], []), ([], []), ([0, 1], [0, 1]), ([], []), ([2, 3], [2, 3]), ([], []), ([], []), ([5, 6], [5, 6]), ([4, 7, 4], [4, 7]), ([8, 8], [8]), ([9, 9], [9]), ([9, 10], [9, 10]), ([11, 10, 0, 1, 2, 3, 4, 5, 6, 7, 8, 9, 10, 11], [11])])
def withylaw17_LevelLast.B13 : List Nat := [0, 0, 3, 0, 15, 0, 0, 96, 255, 511, 1023, 2047, 4095]
theorem withylaw17_LevelLast.tab13 : rtab .any (opsOf Try.f7 13) = withylaw17_LevelLast.T13 := by kernel_rfl
theorem withylaw17_LevelLast.bits13 : waitsOk withylaw17_LevelLast.T13.2 withylaw17_LevelLast.B13 = true := by kernel_rfl
set_option maxHeartbeats 8000000 in
set_option maxRecDepth 100000 in
theorem withylaw17_LevelLast.calls (k : Nat) (A0 : Option Addr) (c0 : Nat) (l0 : List ByteArray) (a1 : Int) (a2 : Int) (r : Bool) (w : World) (hr0 : Kd.C Kd.string w A0 l0.length l0) (hc0 : l0.length ≤ c0) (h : withylaw17_LevelLast.f k l0 a1 a2 = some r) :
  Calls Try.prog 7 #[.slice A0 l0.length c0, .int .i64 a1, .int .u8 a2] w fun e w' => e = .returned (.bool r) ∧ Below w.heap.size w w' := by
 have HR0 := Aside0.mk hr0
 have HC0 := Aside0.mk hc0
 clear hr0 hc0
 have HB := as_ (Below.refl w.heap.size w)
 have H : ((withylaw16_Size.f a1).bind fun t578 => ((withylaw17_Rise.f k l0 t578).bind fun t579 => ((level_Group.f k t579 t578).bind fun t582 => (if (t582.length : Int) = 0 then (none) else (withylaw17_LevelLast.l0 k t579 t578 t582 (Int.tmod (wrap64 (a2)) (t582.length : Int)) 0 0))))) = some r := h
 clear h
 replace H := bM H
 obtain ⟨t578, A40, H⟩ := H
 replace H : ((withylaw17_Rise.f k l0 t578).bind fun t579 => ((level_Group.f k t579 t578).bind fun t582 => (if (t582.length : Int) = 0 then (none) else (withylaw17_LevelLast.l0 k t579 t578 t582 (Int.tmod (wrap64 (a2)) (t582.length : Int)) 0 0)))) = some r := H
 have A4 := Aside0.mk A40
 clear A40
 replace H := bM H
 obtain ⟨t579, A50, H⟩ := H
 replace H : ((level_Group.f k t579 t578).bind fun t582 => (if (t582.length : Int) = 0 then (none) else (withylaw17_LevelLast.l0 k t579 t578 t582 (Int.tmod (wrap64 (a2)) (t582.length : Int)) 0 0))) = some r := H
 have A5 := Aside0.mk A50
 clear A50
 replace H := bM H
 obtain ⟨t582, A60, H⟩ := H
 replace H : (if (t582.length : Int) = 0 then (none) else (withylaw17_LevelLast.l0 k t579 t578 t582 (Int.tmod (wrap64 (a2)) (t582.length : Int)) 0 0)) = some r := H
 have A6 := Aside0.mk A60
 clear A60
 by_cases c7 : (t582.length : Int) = 0
 ·rw [if_pos c7] at H
  exact absurd H (by simp)
 rw [if_neg c7] at H
 have c7b0 : ((t582.length : Int) == 0) = false := beq_eq_false_iff_ne.mpr c7
 have c7b1 : ((t582.length : Int) != 0) = true := bne_iff_ne.mpr c7
 have c7b2 : ¬ (t582 = []) := fun h_ => c7 (by rw [h_]; rfl)
 have H' := Aside0.mk H
 clear H
 go_enter Try.func7, Try.ntmps7
 go_wp2_with (first | ((with_reducible refine gate_callee (f := 12) rfl ?_); refine goesL_ (some 13) rfl rfl Try.func12 (by kernel_rfl) rfl #[.int .i64 a1] rfl aO ?_; (with_reducible refine (withylaw16_Size.calls a1 t578 _ A4.out).mono ?_); rintro e w' ⟨rfl, ⟨nd, rfl⟩⟩; refine ⟨_, rfl, ?_⟩) | ((with_reducible refine gate_callee (f := 13) rfl ?_); refine goesL_ (some 16) rfl rfl Try.func13 (by kernel_rfl) rfl #[.slice A0 l0.length c0, .int .i64 t578] rfl aO ?_; (with_reducible refine (withylaw17_Rise.calls k _ _ l0 t578 t579 _ ?side1 ?side2 A5.out).mono ?_); (case side1 => repeat (first | exact HR0.out | (with_reducible refine Kd.C_alloc ?_ _) | (with_reducible refine Kd.C_drewN ?_ _) | (with_reducible refine Kd.C_drew ?_))); (case side2 => exact HC0.out); rintro e w8 ⟨v580, rfl, ho0, hb⟩; refine ⟨_, rfl, ?_⟩; have HO581 := as_ (Kd.R_lower ho0 (below_size bA)); replace HB := as_ (below_step bA hb); (try clear hb); (try clear hb2); (try clear hk); (try clear hi); (try clear ho0); obtain ⟨Ao9, co9, eo9⟩ := Kd.R_slice HO581.out; subst eo9) | ((with_reducible refine gate_callee (f := 16) rfl ?_); refine goesL_ (some 19) rfl rfl Try.func16 (by kernel_rfl) rfl #[.slice Ao9 t579.length co9, .int .i64 t578] rfl aO ?_; (with_reducible refine (level_Group.calls k _ _ t579 t578 t582 _ ?side1 ?side2 A6.out).mono ?_); (case side1 => repeat (first | exact (Kd.R_reads' HO581.out).2.2 | (with_reducible refine Kd.C_alloc ?_ _) | (with_reducible refine Kd.C_drewN ?_ _) | (with_reducible refine Kd.C_drew ?_))); (case side2 => exact (Kd.R_reads' HO581.out).2.1); rintro e w10 ⟨v583, rfl, ho0, hb⟩; refine ⟨_, rfl, ?_⟩; have HO584 := as_ (Kd.R_lower ho0 (below_size bA)); replace HO581 := as_ (Kd.R_below (by (with_reducible repeat (first | apply Kd.R_alloc | apply Kd.R_drewN | apply Kd.R_drew)); exact HO581.out) hb); replace HB := as_ (below_step bA hb); (try clear hb); (try clear hb2); (try clear hk); (try clear hi); (try clear ho0); obtain ⟨Ao11, co11, eo11⟩ := Kd.R_slice HO584.out; subst eo11))
 go_loopg [10, 11] k (fun kq v10 v11 w' => ∃ (x10_1 : Int) (x11_1 : Int), v10 = .int .i64 x10_1 ∧ v11 = .int .i64 x11_1 ∧ Aside0 (withylaw17_LevelLast.l0 kq t579 t578 t582 (Int.tmod (wrap64 (a2)) (t582.length : Int)) x10_1 x11_1 = some r) ∧ Aside0 (kq ≤ k) ∧ Aside0 (Kd.R Kd.string 9 w' w.heap.size (fun _ => True) (.slice Ao9 t579.length co9) t579) ∧ Aside0 (Kd.R (Kd.int .i64) 3 w' w.heap.size (fun _ => True) (.slice Ao11 t582.length co11) t582) ∧ Aside0 (Below w.heap.size w w'))
 case atStart => exact ⟨(0), (0), (by first | rfl | (simp; done) | (simp [*]; done)), (by first | rfl | (simp; done) | (simp [*]; done)), H', ⟨Nat.le_refl _⟩, ⟨by (with_reducible repeat (first | apply Kd.R_alloc | apply Kd.R_drewN | apply Kd.R_drew)); exact HO581.out⟩, ⟨by (with_reducible repeat (first | apply Kd.R_alloc | apply Kd.R_drewN | apply Kd.R_drew)); exact HO584.out⟩, ⟨by repeat (first | (with_reducible first | exact HB.out | apply below_alloc | apply pw_below_drewN | apply below_drew1) | exact HB.out)⟩⟩
 case round =>
  clear H'
  try clear c1
  try clear p2
  try clear p6
  try clear c7
  try clear c7b0
  try clear c7b1
  try clear c7b2
  obtain ⟨x10_1, x11_1, rfl, rfl, HA, HK1, HO_0, HO_8, HB⟩ := hrel
  cases gk with
  | zero => exact absurd HA.out (by simp [withylaw17_LevelLast.l0])
  | succ k1 =>
   have H := HA.out
   clear HA
   simp only [withylaw17_LevelLast.l0] at H
   by_cases c12 : x11_1 < (Int.tmod (wrap64 (a2)) (t582.length : Int))
   ·rw [if_pos c12] at H
    have c12b0 : decide (x11_1 < (Int.tmod (wrap64 (a2)) (t582.length : Int))) = true := decide_eq_true c12
    clear c12
    by_cases c13 : 0 ≤ x11_1
    rotate_left
    ·rw [if_neg c13] at H
     exact absurd H (by simp)
    rw [if_pos c13] at H
    have c13b0 : decide (0 ≤ x11_1) = true := decide_eq_true c13
    clear c13
    by_cases c14 : x11_1 < (t582.length : Int)
    rotate_left
    ·rw [if_neg c14] at H
     exact absurd H (by simp)
    rw [if_pos c14] at H
    have c14b0 : decide (x11_1 < (t582.length : Int)) = true := decide_eq_true c14
    clear c14
    have H' := Aside0.mk H
    clear H
    have p585 : 0 ≤ (x11_1 : Int) := of_decide_eq_true aM
    have q585 : x11_1 < (t582.length : Int) := of_decide_eq_true aM
    obtain ⟨ad585, e585, hx585_0⟩ := Kd.at_int (Kd.R_reads' HO_8.out).2.2 x11_1 p585 q585
    cases e585
    replace p585 := eq_true p585
    replace q585 := eq_true q585
    go_wp2
    go_roundg k1
    case measure => have := HK1.out; omega
    case rel => exact ⟨(wrap64 (x10_1 + (rd t582 x11_1))), (wrap64 (x11_1 + 1)), (by first | rfl | (simp; done) | (simp [*]; done)), (by first | rfl | (simp; done) | (simp [*]; done)), H', ⟨by have := HK1.out; omega⟩, ⟨by (with_reducible repeat (first | apply Kd.R_alloc | apply Kd.R_drewN | apply Kd.R_drew)); exact HO_0.out⟩, ⟨by (with_reducible repeat (first | apply Kd.R_alloc | apply Kd.R_drewN | apply Kd.R_drew)); exact HO_8.out⟩, ⟨by repeat (first | (with_reducible first | exact HB.out | apply below_alloc | apply pw_below_drewN | apply below_drew1) | exact HB.out)⟩⟩
   rw [if_neg c12] at H
   have c12b0 : decide (x11_1 < (Int.tmod (wrap64 (a2)) (t582.length : Int))) = false := decide_eq_false c12
   clear c12
   have HC15 := Aside0.mk H
   clear H
   go_upto_region 11 with (fail)
   go_cut [52] (fun v52 wc => ∃ (kq : Nat) (x52_14 : Bool), v52 = .bool x52_14 ∧ Aside0 (withylaw17_LevelLast.j1 kq t579 t578 t582 (Int.tmod (wrap64 (a2)) (t582.length : Int)) x10_1 x52_14 = some r) ∧ Aside0 (kq ≤ k1) ∧ Aside0 (Kd.R Kd.string 9 wc w.heap.size (fun _ => True) (.slice Ao9 t579.length co9) t579) ∧ Aside0 (Kd.R (Kd.int .i64) 3 wc w.heap.size (fun _ => True) (.slice Ao11 t582.length co11) t582) ∧ Aside0 (Below w.heap.size w wc))
   case first =>
    have H := HC15.out
    clear HC15
    by_cases c16 : x10_1 < 0
    ·rw [if_pos c16] at H
     have c16b0 : decide (x10_1 < 0) = true := decide_eq_true c16
     clear c16
     (first | rw [c16b0] | (simp only [i64_w, i32_w]; rw [c16b0]) | rw [c16b1] | skip)
     have H' := Aside0.mk H
     clear H
     go_wp2
     go_meet
     case rel => exact ⟨_, (true), (by first | rfl | (simp; done) | (simp [*]; done)), H', ⟨by have := HK1.out; first | omega | exact Nat.le_refl _⟩, ⟨by (with_reducible repeat (first | apply Kd.R_alloc | apply Kd.R_drewN | apply Kd.R_drew)); exact HO_0.out⟩, ⟨by (with_reducible repeat (first | apply Kd.R_alloc | apply Kd.R_drewN | apply Kd.R_drew)); exact HO_8.out⟩, ⟨by repeat (first | (with_reducible first | exact HB.out | apply below_alloc | apply pw_below_drewN | apply below_drew1) | exact HB.out)⟩⟩
    rw [if_neg c16] at H
    have c16b0 : decide (x10_1 < 0) = false := decide_eq_false c16
    clear c16
    (first | rw [c16b0] | (simp only [i64_w, i32_w]; rw [c16b0]) | rw [c16b1] | skip)
    by_cases c17 : x10_1 > (t579.length : Int)
    ·rw [if_pos c17] at H
     have c17b0 : decide ((t579.length : Int) < x10_1) = true := decide_eq_true c17
     clear c17
     have H' := Aside0.mk H
     clear H
     go_wp2
     go_meet
     case rel => exact ⟨_, (true), (by first | rfl | (simp; done) | (simp [*]; done)), H', ⟨by have := HK1.out; first | omega | exact Nat.le_refl _⟩, ⟨by (with_reducible repeat (first | apply Kd.R_alloc | apply Kd.R_drewN | apply Kd.R_drew)); exact HO_0.out⟩, ⟨by (with_reducible repeat (first | apply Kd.R_alloc | apply Kd.R_drewN | apply Kd.R_drew)); exact HO_8.out⟩, ⟨by repeat (first | (with_reducible first | exact HB.out | apply below_alloc | apply pw_below_drewN | apply below_drew1) | exact HB.out)⟩⟩
    rw [if_neg c17] at H
    have c17b0 : decide ((t579.length : Int) < x10_1) = false := decide_eq_false c17
    clear c17
    replace H := bM H
    obtain ⟨t586, A180, H⟩ := H
    replace H : (withylaw17_LevelLast.j1 k1 t579 t578 t582 (Int.tmod (wrap64 (a2)) (t582.length : Int)) x10_1 (!t586)) = some r := H
    have A18 := Aside0.mk A180
    clear A180
    have H' := Aside0.mk H
    clear H
    go_wp2_with (first | (go_at_call 11; (with_reducible refine (withyref17_Right.calls k1 _ _ t579 t578 t586 _ ?side1 ?side2 A18.out).mono ?_); (case side1 => repeat (first | exact (Kd.R_reads' HO_0.out).2.2 | (with_reducible refine Kd.C_alloc ?_ _) | (with_reducible refine Kd.C_drewN ?_ _) | (with_reducible refine Kd.C_drew ?_))); (case side2 => exact (Kd.R_reads' HO_0.out).2.1); rintro e w' ⟨rfl, ⟨nd, rfl⟩⟩))
    go_meet
    case rel => exact ⟨_, (!t586), (by first | rfl | (simp; done) | (simp [*]; done)), H', ⟨by have := HK1.out; first | omega | exact Nat.le_refl _⟩, ⟨by (with_reducible repeat (first | apply Kd.R_alloc | apply Kd.R_drewN | apply Kd.R_drew)); exact HO_0.out⟩, ⟨by (with_reducible repeat (first | apply Kd.R_alloc | apply Kd.R_drewN | apply Kd.R_drew)); exact HO_8.out⟩, ⟨by repeat (first | (with_reducible first | exact HB.out | apply below_alloc | apply pw_below_drewN | apply below_drew1) | exact HB.out)⟩⟩
   case rest =>
    clear HC15
    try clear c1
    try clear p2
    try clear p5
    try clear q5
    try clear hx5
    try clear p6
    try clear c7
    try clear c7b0
    try clear c7b1
    try clear c7b2
    try clear c12
    try clear c12b0
    try clear c13
    try clear c13b0
    try clear c14
    try clear c14b0
    try clear c16
    try clear c16b0
    try clear c16b1
    try clear c17
    try clear c17b0
    try clear hx585_0
    try clear p2
    try clear p585
    try clear p6
    try clear q585
    obtain ⟨kq, x52_14, rfl, HA, HJ14, HO_0, HO_8, HB⟩ := hcut
    cases kq with
    | zero => exact absurd HA.out (by simp [withylaw17_LevelLast.j1])
    | succ kj14 =>
     have H := HA.out
     clear HA
     simp only [withylaw17_LevelLast.j1] at H
     by_cases c19 : x52_14 = true
     ·subst c19
      have H1 : (none) = some r := by rw [if_pos rfl] at H; exact H
      clear H
      have H := H1
      clear H1
      exact absurd H (by simp)
     replace c19 := Bool.eq_false_iff.mpr c19
     subst c19
     have H1 : (if 0 ≤ x10_1 then (if x10_1 ≤ (t579.length : Int) then ((level_Group.f kj14 (t579.drop (x10_1 : Int).toNat) t578).bind fun t591 => (if 0 ≤ (Int.tmod (wrap64 (a2)) (t582.length : Int)) then (if (Int.tmod (wrap64 (a2)) (t582.length : Int)) ≤ (t582.length : Int) then ((withyref01_Ints.f kj14 t591 (t582.drop ((Int.tmod (wrap64 (a2)) (t582.length : Int)) : Int).toNat)).bind fun t598 => (if t598 = true then ((withylaw17_fixed.f kj14).bind fun t599 => (some t599)) else (none))) else (none)) else (none))) else (none)) else (none)) = some r := by rw [if_neg (show ¬ (false = true) by decide)] at H; exact H
     clear H
     have H := H1
     clear H1
     by_cases c20 : 0 ≤ x10_1
     rotate_left
     ·rw [if_neg c20] at H
      exact absurd H (by simp)
 
     rw [if_pos c20] at H
     have c20b0 := eq_true c20
     have c20b1 : decide (0 ≤ x10_1) = true := decide_eq_true c20
     clear c20
     by_cases c21 : x10_1 ≤ (t579.length : Int)
     rotate_left
     ·rw [if_neg c21] at H
      exact absurd H (by simp)
     rw [if_pos c21] at H
     have c21b0 := eq_true c21
     have c21b1 : decide (x10_1 ≤ (t579.length : Int)) = true := decide_eq_true c21
     clear c21
     obtain ⟨y587, hy587⟩ : ∃ y_ : List ByteArray, y_ = (t579.drop (x10_1 : Int).toNat) := ⟨_, rfl⟩
     replace H : ((level_Group.f kj14 y587 t578).bind fun t591 => (if 0 ≤ (Int.tmod (wrap64 (a2)) (t582.length : Int)) then (if (Int.tmod (wrap64 (a2)) (t582.length : Int)) ≤ (t582.length : Int) then ((withyref01_Ints.f kj14 t591 (t582.drop ((Int.tmod (wrap64 (a2)) (t582.length : Int)) : Int).toNat)).bind fun t598 => (if t598 = true then ((withylaw17_fixed.f kj14).bind fun t599 => (some t599)) else (none))) else (none)) else (none))) = some r := by first | (rw [hy587]; with_reducible exact H) | (have H2_ := (Option.bind_some _ _).symm.trans H; rw [hy587]; with_reducible exact H2_) | (have H2_ := (Option.bind_some _ _).symm.trans H; with_reducible exact H2_) | with_reducible exact H | (rw [hy587]; exact H) | exact H
     have Ny587 := Aside0.mk hy587
     clear hy587
     replace H := bM H
     obtain ⟨t591, A220, H⟩ := H
     replace H : (if 0 ≤ (Int.tmod (wrap64 (a2)) (t582.length : Int)) then (if (Int.tmod (wrap64 (a2)) (t582.length : Int)) ≤ (t582.length : Int) then ((withyref01_Ints.f kj14 t591 (t582.drop ((Int.tmod (wrap64 (a2)) (t582.length : Int)) : Int).toNat)).bind fun t598 => (if t598 = true then ((withylaw17_fixed.f kj14).bind fun t599 => (some t599)) else (none))) else (none)) else (none)) = some r := H
     have A22 := Aside0.mk A220
     clear A220
     obtain ⟨ji23, hji23⟩ : ∃ j_ : Int, (Int.tmod (wrap64 (a2)) (t582.length : Int)) = j_ := ⟨_, rfl⟩
     replace H : (if 0 ≤ (ji23) then (if (ji23) ≤ (t582.length : Int) then ((withyref01_Ints.f kj14 t591 (t582.drop ((ji23) : Int).toNat)).bind fun t598 => (if t598 = true then ((withylaw17_fixed.f kj14).bind fun t599 => (some t599)) else (none))) else (none)) else (none)) = some r := by first | (rw [hji23] at H; exact H) | (simp only [hji23] at H ⊢; exact H)
     (try rw [hji23] at c12b0)
     (try rw [hji23] at A22)
     by_cases c24 : 0 ≤ (ji23)
     rotate_left
     ·rw [if_neg c24] at H
      exact absurd H (by simp)
     rw [if_pos c24] at H
     have c24b0 := eq_true c24
     have c24b1 : decide (0 ≤ (ji23)) = true := decide_eq_true c24
     clear c24
     by_cases c25 : (ji23) ≤ (t582.length : Int)
     rotate_left
     ·rw [if_neg c25] at H
      exact absurd H (by simp)
     rw [if_pos c25] at H
     have c25b0 := eq_true c25
     have c25b1 : decide ((ji23) ≤ (t582.length : Int)) = true := decide_eq_true c25
     clear c25
     obtain ⟨y594, hy594⟩ : ∃ y_ : List Int, y_ = (t582.drop ((ji23) : Int).toNat) := ⟨_, rfl⟩
     replace H : ((withyref01_Ints.f kj14 t591 y594).bind fun t598 => (if t598 = true then ((withylaw17_fixed.f kj14).bind fun t599 => (some t599)) else (none))) = some r := by first | (rw [hy594]; with_reducible exact H) | (have H2_ := (Option.bind_some _ _).symm.trans H; rw [hy594]; with_reducible exact H2_) | (have H2_ := (Option.bind_some _ _).symm.trans H; with_reducible exact H2_) | with_reducible exact H | (rw [hy594]; exact H) | exact H
     have Ny594 := Aside0.mk hy594
     clear hy594
     replace H := bM H
     obtain ⟨t598, A260, H⟩ := H
     replace H : (if t598 = true then ((withylaw17_fixed.f kj14).bind fun t599 => (some t599)) else (none)) = some r := H
     have A26 := Aside0.mk A260
     clear A260
     by_cases c27 : t598 = true
     rotate_left
     ·replace c27 := Bool.eq_false_iff.mpr c27
      subst c27
      have H1 : (none) = some r := by rw [if_neg (show ¬ (false = true) by decide)] at H; exact H
      clear H
      have H := H1
      clear H1
      exact absurd H (by simp)
     subst c27
     have H1 : ((withylaw17_fixed.f kj14).bind fun t599 => (some t599)) = some r := by rw [if_pos rfl] at H; exact H
     clear H
     have H := H1
     clear H1
     replace H := bM H
     obtain ⟨t599, A280, H⟩ := H
     replace H : (some t599) = some r := H
     have A28 := Aside0.mk A280
     clear A280
     obtain rfl := Option.some.inj H
     try go_wp2
     replace HO_0 := as_ (Kd.R_drew HO_0.out)
     replace HO_8 := as_ (Kd.R_drew HO_8.out)
     replace HB := as_ (below_drew1 HB.out)
     have q30 : (x10_1 : Int) ≤ ((t579.length : Int) : Int) := of_decide_eq_true aM
     obtain ⟨i030, hi030, _, hsz30, _⟩ := info_parts info9
     have hroom30 : t579.length ≤ co9 := (Kd.R_reads' HO_0.out).2.1
     have hC30 : Kd.C Kd.string _ Ao9 t579.length t579 := (Kd.R_reads' HO_0.out).2.2
     have q030 : (0 : Int) ≤ (x10_1 : Int) := of_decide_eq_true aM
     have hcut30 := cut_from (P := Try.prog) 22 9 .i64 Try.underlying22 hi030 1 hsz30 Ao9 t579.length co9 x10_1 q030 q30
     have hr30 := Kd.C_drop (m := (x10_1 : Int).toNat) (c := co9) hC30 (by omega) hroom30
     obtain ⟨A30, hA30⟩ : ∃ A1, A1 = (if co9 = (x10_1 : Int).toNat then Ao9 else (Ao9 : Option Addr).map (·.add ((x10_1 : Int).toNat * 1))) := ⟨_, rfl⟩
     obtain ⟨c30, hc30⟩ : ∃ c1, c1 = co9 - (x10_1 : Int).toNat := ⟨_, rfl⟩
     have hy30 : y587.length = t579.length - (x10_1 : Int).toNat := (by rw [Ny587.out, List.length_drop] <;> omega)
     rw [show (t579).drop (x10_1 : Int).toNat = y587 from Ny587.out.symm] at hr30
     replace hr30 : Kd.C Kd.string _ A30 y587.length y587 := (by rw [hA30]; exact hr30)
     rw [← hy30, ← hA30, ← hc30] at hcut30
     have HR590 := Aside0.mk hr30
     have HC590 := as_ (show y587.length ≤ c30 from by rw [hy30, hc30]; exact Nat.sub_le_sub_right hroom30 _)
     clear hr30 hC30 hroom30 hi030 hsz30 hc30
     have KY30 := Aside0.mk hy30
     have KA30 := Aside0.mk hA30
     clear hy30 hA30
     have KL30 := as_ (show (x10_1 : Int).toNat ≤ t579.length from by omega)
     replace q30 := eq_true q30
     have q31 : ((ji23) : Int) ≤ ((t582.length : Int) : Int) := of_decide_eq_true aM
     obtain ⟨i031, hi031, _, hsz31, _⟩ := info_parts info3
     have hroom31 : t582.length ≤ co11 := (Kd.R_reads' HO_8.out).2.1
     have hC31 : Kd.C (Kd.int .i64) _ Ao11 t582.length t582 := (Kd.R_reads' HO_8.out).2.2
     have q031 : (0 : Int) ≤ ((ji23) : Int) := of_decide_eq_true aM
     have hcut31 := cut_from (P := Try.prog) 27 3 .i64 Try.underlying27 hi031 1 hsz31 Ao11 t582.length co11 (ji23) q031 q31
     have hr31 := Kd.C_drop (m := ((ji23) : Int).toNat) (c := co11) hC31 (by omega) hroom31
     obtain ⟨A31, hA31⟩ : ∃ A1, A1 = (if co11 = ((ji23) : Int).toNat then Ao11 else (Ao11 : Option Addr).map (·.add (((ji23) : Int).toNat * 1))) := ⟨_, rfl⟩
     obtain ⟨c31, hc31⟩ : ∃ c1, c1 = co11 - ((ji23) : Int).toNat := ⟨_, rfl⟩
     have hy31 : y594.length = t582.length - ((ji23) : Int).toNat := (by rw [Ny594.out, List.length_drop] <;> omega)
     rw [show (t582).drop ((ji23) : Int).toNat = y594 from Ny594.out.symm] at hr31
     replace hr31 : Kd.C (Kd.int .i64) _ A31 y594.length y594 := (by rw [hA31]; exact hr31)
     rw [← hy31, ← hA31, ← hc31] at hcut31
     have HR597 := Aside0.mk hr31
     have HC597 := as_ (show y594.length ≤ c31 from by rw [hy31, hc31]; exact Nat.sub_le_sub_right hroom31 _)
     clear hr31 hC31 hroom31 hi031 hsz31 hc31
     have KY31 := Aside0.mk hy31
     have KA31 := Aside0.mk hA31
     clear hy31 hA31
     have KL31 := as_ (show ((ji23) : Int).toNat ≤ t582.length from by omega)
     replace q31 := eq_true q31
     refine start_ (n := 13) (S := fun w' => True) (ds := []) #[ff, ff, ff, ff, ff, ff, ff, ff, ff, ff, ff, ff, ff] (by kernel_rfl) rfl rfl trivial (fun hHeld => ?_); refine with_tabW withylaw17_LevelLast.tab13 withylaw17_LevelLast.bits13 (fun HT_ HW_ => ?_)
     generalize wc.drew = w29 at HO_0 HO_8 HB HR590 HR597 hHeld ⊢
     refine pure_ (i := 0) (N := some 53) (v := ?_) (a' := ?_) #[tt, ff, ff, ff, ff, ff, ff, ff, ff, ff, ff, ff, ff] rfl rfl (any_of HT_.out (by kernel_rfl)) (fun _ _ _ h => h) (Or.inl ⟨by rfl, ?_⟩) ?_ ?_
     rotate_left
     ·intro w'
      go_simp
      with_reducible rfl
     rotate_left
     ·exact aP
     refine pure_ (i := 1) (N := some 54) (v := ?_) (a' := ?_) #[tt, tt, ff, ff, ff, ff, ff, ff, ff, ff, ff, ff, ff] rfl rfl (any_of HT_.out (by kernel_rfl)) (fun _ _ _ h => h) (Or.inl ⟨by rfl, ?_⟩) ?_ ?_
     rotate_left
     ·intro w'
      go_simp
      with_reducible rfl
     rotate_left
     ·exact aP
     refine pure_ (i := 2) (N := some 55) (v := ?_) (a' := ?_) #[tt, tt, tt, ff, ff, ff, ff, ff, ff, ff, ff, ff, ff] rfl rfl (any_of HT_.out (by kernel_rfl)) (fun _ _ _ h => h) (Or.inl ⟨by rfl, ?_⟩) ?_ ?_
     rotate_left
     ·intro w'
      go_simp
      with_reducible rfl
     rotate_left
     ·exact aP
     refine pure_ (i := 3) (N := some 56) (v := ?_) (a' := ?_) #[tt, tt, tt, tt, ff, ff, ff, ff, ff, ff, ff, ff, ff] rfl rfl (any_of HT_.out (by kernel_rfl)) (fun _ _ _ h => h) (Or.inl ⟨by rfl, ?_⟩) ?_ ?_
     rotate_left
     ·intro w'
      go_simp
      with_reducible rfl
     rotate_left
     ·exact aP
     refine pure_ (i := 5) (N := some 58) (v := ?_) (a' := ?_) #[tt, tt, tt, tt, ff, tt, ff, ff, ff, ff, ff, ff, ff] rfl rfl (any_of HT_.out (by kernel_rfl)) (fun _ _ _ h => h) (Or.inl ⟨by rfl, ?_⟩) ?_ ?_
     rotate_left
     ·intro w'
      go_simp
      with_reducible rfl
     rotate_left
     ·exact aP
     refine pure_ (i := 6) (N := some 59) (v := ?_) (a' := ?_) #[tt, tt, tt, tt, ff, tt, tt, ff, ff, ff, ff, ff, ff] rfl rfl (any_of HT_.out (by kernel_rfl)) (fun _ _ _ h => h) (Or.inl ⟨by rfl, ?_⟩) ?_ ?_
     rotate_left
     ·intro w'
      go_simp
      with_reducible rfl
     rotate_left
     ·exact aP
     refine pure_ (i := 7) (N := some 60) (v := ?_) (a' := ?_) #[tt, tt, tt, tt, ff, tt, tt, tt, ff, ff, ff, ff, ff] rfl rfl (any_of HT_.out (by kernel_rfl)) (fun _ _ _ h => h) (Or.inl ⟨by rfl, ?_⟩) ?_ ?_
     rotate_left
     ·intro w'
      go_simp
      with_reducible rfl
     rotate_left
     ·exact aP
     refine one_ (i := 4) (N := some 57) #[tt, tt, tt, tt, tt, tt, tt, tt, ff, ff, ff, ff, ff] rfl rfl (one_of HT_.out (by kernel_rfl)) (by decide) (fun K hK => ?_)
     refine goes_ Try.func16 (by kernel_rfl) rfl #[.slice A30 y587.length c30, .int .i64 t578] (by rfl) rfl rfl aO ?_
     with_reducible refine (level_Group.calls kj14 _ _ y587 t578 t591 _ ?side1 ?side2 A22.out).mono ?_
     (case side1 => repeat (first | exact (by repeat (first | (with_reducible exact HR590.out) | (with_reducible refine Kd.C_alloc ?_ _) | (with_reducible refine Kd.C_drewN ?_ _) | (with_reducible refine Kd.C_drew ?_) | exact HR590.out)) | (with_reducible refine Kd.C_alloc ?_ _) | (with_reducible refine Kd.C_drewN ?_ _) | (with_reducible refine Kd.C_drew ?_)))
     (case side2 => exact HC590.out)
     rintro e w32 ⟨v592, rfl, ho0, hb⟩
     refine ⟨_, rfl, ?_⟩
     have HO593 := as_ (Kd.R_lower (Kd.R_new' ho0 (Kd.R_lt (by (with_reducible repeat (first | apply Kd.R_alloc | apply Kd.R_drewN | apply Kd.R_drew)); exact HO_8.out))) (below_size bA))
     replace HO_0 := as_ (Kd.R_below (by (with_reducible repeat (first | apply Kd.R_alloc | apply Kd.R_drewN | apply Kd.R_drew)); exact HO_0.out) hb)
     replace HO_8 := as_ (Kd.R_elder' (by (with_reducible repeat (first | apply Kd.R_alloc | apply Kd.R_drewN | apply Kd.R_drew)); exact HO_8.out) (Kd.R_base ho0) hb)
     replace HR590 := as_ (Kd.C_below (by repeat (first | (with_reducible exact HR590.out) | (with_reducible refine Kd.C_alloc ?_ _) | (with_reducible refine Kd.C_drewN ?_ _) | (with_reducible refine Kd.C_drew ?_) | exact HR590.out)) hb)
     replace HR597 := as_ (Kd.C_below (by repeat (first | (with_reducible exact HR597.out) | (with_reducible refine Kd.C_alloc ?_ _) | (with_reducible refine Kd.C_drewN ?_ _) | (with_reducible refine Kd.C_drew ?_) | exact HR597.out)) hb)
     replace HB := as_ (below_step bA hb)
     (try clear hb)
     (try clear hb2)
     (try clear hk)
     (try clear hi)
     (try clear ho0)
     obtain ⟨Ao33, co33, eo33⟩ := Kd.R_slice HO593.out
     (first | subst eo33 | (injection eo33 with f1_ f2_ f3_; have f4_ := f1_.symm; have f5_ := f3_.symm; clear f1_ f2_ f3_; subst f4_; subst f5_))
     refine hK.out _ _ trivial (fun hHeld => ?_)
     clear hK K
     refine norm_ (a' := ?_) ?_ ?_
     rotate_left
     ·show Act.put _ (some 57) _ = _
      simp only [Act.put, List.setIfInBounds_toArray, List.set_cons_zero, List.set_cons_succ, i64_w, i32_w]
      rfl
     refine one_ (i := 8) (N := some 61) #[tt, tt, tt, tt, tt, tt, tt, tt, tt, ff, ff, ff, ff] rfl rfl (one_of HT_.out (by kernel_rfl)) (by decide) (fun K hK => ?_)
     refine goes_ Try.func15 (by kernel_rfl) rfl #[.slice Ao33 t591.length co33, .slice A31 y594.length c31] (by rfl) rfl rfl aO ?_
     with_reducible refine (withyref01_Ints.calls kj14 _ _ t591 _ _ y594 true _ ?side1 ?side2 ?side3 ?side4 A26.out).mono ?_
     (case side1 => repeat (first | exact (Kd.R_reads' HO593.out).2.2 | (with_reducible refine Kd.C_alloc ?_ _) | (with_reducible refine Kd.C_drewN ?_ _) | (with_reducible refine Kd.C_drew ?_)))
     (case side2 => exact (Kd.R_reads' HO593.out).2.1)
     (case side3 => repeat (first | exact (by repeat (first | (with_reducible exact HR597.out) | (with_reducible refine Kd.C_alloc ?_ _) | (with_reducible refine Kd.C_drewN ?_ _) | (with_reducible refine Kd.C_drew ?_) | exact HR597.out)) | (with_reducible refine Kd.C_alloc ?_ _) | (with_reducible refine Kd.C_drewN ?_ _) | (with_reducible refine Kd.C_drew ?_)))
     (case side4 => exact HC597.out)
     rintro e w' ⟨rfl, ⟨nd, rfl⟩⟩
     refine ⟨_, rfl, ?_⟩
     refine hK.out _ _ trivial (fun hHeld => ?_)
     clear hK K
     refine norm_ (a' := ?_) ?_ ?_
     rotate_left
     ·show Act.put _ (some 61) _ = _
      simp only [Act.put, List.setIfInBounds_toArray, List.set_cons_zero, List.set_cons_succ, i64_w, i32_w]
      rfl
     refine pure_ (i := 9) (N := some 62) (v := ?_) (a' := ?_) #[tt, tt, tt, tt, tt, tt, tt, tt, tt, tt, ff, ff, ff] rfl rfl (any_of HT_.out (by kernel_rfl)) (fun _ _ _ h => h) (Or.inl ⟨by rfl, ?_⟩) ?_ ?_
     rotate_left
     ·intro w'
      go_simp
      with_reducible rfl
     rotate_left
     ·exact aP
     refine one_ (i := 10) (N := some 63) #[tt, tt, tt, tt, tt, tt, tt, tt, tt, tt, tt, ff, ff] rfl rfl (one_of HT_.out (by kernel_rfl)) (by decide) (fun K hK => ?_)
     refine goes_ Try.func26 (by kernel_rfl) rfl #[] (by rfl) rfl rfl aO ?_
     with_reducible refine (withylaw17_fixed.calls kj14  t599 _ A28.out).mono ?_
     rintro e w34 ⟨rfl, hb⟩
     refine ⟨_, rfl, ?_⟩
     replace HO_0 := as_ (Kd.R_below (by (with_reducible repeat (first | apply Kd.R_alloc | apply Kd.R_drewN | apply Kd.R_drew)); exact HO_0.out) hb)
     replace HO_8 := as_ (Kd.R_below (by (with_reducible repeat (first | apply Kd.R_alloc | apply Kd.R_drewN | apply Kd.R_drew)); exact HO_8.out) hb)
     replace HO593 := as_ (Kd.R_below (by (with_reducible repeat (first | apply Kd.R_alloc | apply Kd.R_drewN | apply Kd.R_drew)); exact HO593.out) hb)
     replace HR590 := as_ (Kd.C_below (by repeat (first | (with_reducible exact HR590.out) | (with_reducible refine Kd.C_alloc ?_ _) | (with_reducible refine Kd.C_drewN ?_ _) | (with_reducible refine Kd.C_drew ?_) | exact HR590.out)) hb)
     replace HR597 := as_ (Kd.C_below (by repeat (first | (with_reducible exact HR597.out) | (with_reducible refine Kd.C_alloc ?_ _) | (with_reducible refine Kd.C_drewN ?_ _) | (with_reducible refine Kd.C_drew ?_) | exact HR597.out)) hb)
     replace HB := as_ (below_step bA hb)
     (try clear hb)
     (try clear hb2)
     (try clear hk)
     (try clear hi)
     refine hK.out _ _ trivial (fun hHeld => ?_)
     clear hK K
     refine norm_ (a' := ?_) ?_ ?_
     rotate_left
     ·show Act.put _ (some 63) _ = _
      simp only [Act.put, List.setIfInBounds_toArray, List.set_cons_zero, List.set_cons_succ, i64_w, i32_w]
      rfl
     refine pure_ (i := 11) (N := some 64) (v := ?_) (a' := ?_) #[tt, tt, tt, tt, tt, tt, tt, tt, tt, tt, tt, tt, ff] rfl rfl (any_of HT_.out (by kernel_rfl)) (fun _ _ _ h => h) (Or.inl ⟨by rfl, ?_⟩) ?_ ?_
     rotate_left
     ·intro w'
      go_simp
      with_reducible rfl
     rotate_left
     ·exact aP
     refine pure_ (i := 12) (N := some 6) (v := ?_) (a' := ?_) #[tt, tt, tt, tt, tt, tt, tt, tt, tt, tt, tt, tt, tt] rfl rfl (any_of HT_.out (by kernel_rfl)) (fun _ _ _ h => h) (Or.inl ⟨by rfl, ?_⟩) ?_ ?_
     rotate_left
     ·intro w'
      go_simp
      with_reducible rfl
     rotate_left
     ·exact aP
     refine done_ (done_of HT_.out (by kernel_rfl)) ?_
     try go_wp2
     go_ret
     exact ⟨by first | rfl | (simp [errW_none, errW_some] <;> rfl) | (simp only [← hji23]; first | rfl | (simp [errW_none, errW_some] <;> rfl)) | (simp [*, errW_none, errW_some] <;> rfl), by repeat (first | (with_reducible first | exact HB.out | apply below_alloc | apply pw_below_drewN | apply below_drew1) | exact HB.out)⟩
/-! ### withylaw05_Cut: function 27 -/
def withylaw05_Cut.l0 : Nat → List ByteArray → List ByteArray → Int → Option (List ByteArray)
 | 0, _, _, _ => none
 | k + 1, x0, x3, x4 => if x4 < (x0.length : Int) then (if x4 < 30 then (if 0 ≤ x4 then (if 0 ≤ (mn ((rdOf ByteArray.empty x0 x4).size : Int) 60) then (if (mn ((rdOf ByteArray.empty x0 x4).size : Int) 60) ≤ ((rdOf ByteArray.empty x0 x4).size : Int) then (if x3.length < 8796093022208 then (withylaw05_Cut.l0 k x0 (x3 ++ [(rdOf ByteArray.empty x0 x4).extract 0 ((mn ((rdOf ByteArray.empty x0 x4).size : Int) 60) : Int).toNat]) (wrap64 (x4 + 1))) else (none)) else (none)) else (none)) else (none)) else (some x3)) else (some x3)
def withylaw05_Cut.f (k : Nat) (l0 : List ByteArray) : Option (List ByteArray) := withylaw05_Cut.l0 k l0 (([] : List ByteArray)) 0
theorem withylaw05_Cut.mono_l : ∀ k, (∀ y0 y1 y2, LeO (withylaw05_Cut.l0 k y0 y1 y2) (withylaw05_Cut.l0 (k + 1) y0 y1 y2))
 | 0 => fun _ _ _ r h => by simp [withylaw05_Cut.l0] at h
 | k + 1 => by
  have ih0 := withylaw05_Cut.mono_l k
  ·intro y0 y1 y2
   unfold withylaw05_Cut.l0
   repeat' first
   | (with_reducible exact ih0 _ _ _)
   | (with_reducible exact LeO.refl _)
   | (with_reducible exact LeO.none _)
   | (with_reducible refine LeO.ite ?_ ?_)
   | (with_reducible refine LeO.bind ?_ (fun _ => ?_))
   | exact ih0 _ _ _
   | exact LeO.none _
   | refine LeO.ite ?_ ?_
   | refine LeO.bind ?_ (fun _ => ?_)
theorem withylaw05_Cut.mono : ∀ a0 k, LeO (withylaw05_Cut.f k a0) (withylaw05_Cut.f (k + 1) a0) := by
 intro a0 k
 have ih0 := withylaw05_Cut.mono_l k
 unfold withylaw05_Cut.f
 repeat' first
   | (with_reducible exact ih0 _ _ _)
   | (with_reducible exact LeO.refl _)
   | (with_reducible exact LeO.none _)
   | (with_reducible refine LeO.ite ?_ ?_)
   | (with_reducible refine LeO.bind ?_ (fun _ => ?_))
   | exact ih0 _ _ _
   | exact LeO.none _
   | refine LeO.ite ?_ ?_
   | refine LeO.bind ?_ (fun _ => ?_)
def withylaw05_Cut.T5 : Bool × List (List Nat × List Nat) := (true, [([], []), ([], []), ([], []), ([1, 2], [1, 2]), ([3], [3]), ([], []), ([], []), ([5, 6], [5, 6]), ([7], [7]), ([8], [8]), ([9], [9]), ([4, 10], [4, 10]), ([11], [11]), ([0, 12], [0, 12]), ([13, 13, 0, 1, 2, 3, 4, 5, 6, 7, 8, 9, 10, 11, 12, 13], [0, 13])])
def withylaw05_Cut.B5 : List Nat := [0, 0, 0, 6, 14, 0, 0, 96, 224, 480, 992, 2046, 4094, 8191, 16383]
theorem withylaw05_Cut.tab5 : rtab .any (opsOf Try.f27 5) = withylaw05_Cut.T5 := by kernel_rfl
theorem withylaw05_Cut.bits5 : waitsOk withylaw05_Cut.T5.2 withylaw05_Cut.B5 = true := by kernel_rfl
set_option maxHeartbeats 8000000 in
set_option maxRecDepth 100000 in
theorem withylaw05_Cut.calls (k : Nat) (A0 : Option Addr) (c0 : Nat) (l0 : List ByteArray) (r : List ByteArray) (w : World) (hr0 : Kd.C Kd.string w A0 l0.length l0) (hc0 : l0.length ≤ c0) (h : withylaw05_Cut.f k l0 = some r) :
  Calls Try.prog 27 #[.slice A0 l0.length c0] w fun e w' => ∃ v0_ : Value, e = .returned (v0_) ∧ Kd.R Kd.string 9 w' w.heap.size (fun _ => True) v0_ r ∧ Below w.heap.size w w' := by
 have HR0 := Aside0.mk hr0
 have HC0 := Aside0.mk hc0
 clear hr0 hc0
 have HB := as_ (Below.refl w.heap.size w)
 have H : (withylaw05_Cut.l0 k l0 (([] : List ByteArray)) 0) = some r := h
 clear h
 obtain ⟨y600, hy600⟩ : ∃ y_ : List ByteArray, y_ = (([] : List ByteArray)) := ⟨_, rfl⟩
 replace H : (withylaw05_Cut.l0 k l0 y600 0) = some r := by first | (rw [hy600]; with_reducible exact H) | (have H2_ := (Option.bind_some _ _).symm.trans H; rw [hy600]; with_reducible exact H2_) | (have H2_ := (Option.bind_some _ _).symm.trans H; with_reducible exact H2_) | with_reducible exact H | (rw [hy600]; exact H) | exact H
 have Ny600 := Aside0.mk hy600
 clear hy600
 have H' := Aside0.mk H
 clear H
 go_enter Try.func27, Try.ntmps27
 go_wp2_with (first | ((with_reducible refine gate_dst (N := 5) rfl ?_); refine Kd.R_lit Kd.string _ 9 ?hg (N := 5) ?hd (xs := ([] : List ByteArray)) (inner := []) (ok := fun _ => True) (okp := fun _ => True) ?hr ?hp (fun _ hk => hk) trivial (Below.refl _ _) (Nat.le_refl _) (by simp) ?_; (case hd => rfl); (case hg => rfl); (case hr => first | (go_simp; done) | (go_simp; rfl)); (case hp => exact (Reps.none _ _)); intro v601 w2 ho3 hb hg_ hnew_; clear hg_ hnew_; (first | rw [← Ny600.out] at ho3 | (simp only [Int.reduceToNat] at ho3; rw [← Ny600.out] at ho3)); have HO602 := as_ (Kd.R_lower ho3 (below_size bA)); replace HB := as_ (below_step bA hb); clear hb ho3))
 go_loopg [3, 4] k (fun kq v3 v4 w' => ∃ (x3_1 : List ByteArray) (x4_1 : Int), v4 = .int .i64 x4_1 ∧ Aside0 (withylaw05_Cut.l0 kq l0 x3_1 x4_1 = some r) ∧ Aside0 (kq ≤ k) ∧ Aside0 (Kd.R Kd.string 9 w' w.heap.size (fun _ => True) v3 x3_1) ∧ Aside0 (Below w.heap.size w w'))
 case atStart => exact ⟨(y600), (0), (by first | rfl | (simp; done) | (simp [*]; done)), H', ⟨Nat.le_refl _⟩, ⟨by (with_reducible repeat (first | apply Kd.R_alloc | apply Kd.R_drewN | apply Kd.R_drew)); exact HO602.out⟩, ⟨by repeat (first | (with_reducible first | exact HB.out | apply below_alloc | apply pw_below_drewN | apply below_drew1) | exact HB.out)⟩⟩
 case round =>
  clear H'
  try clear c2
  try clear p2
  obtain ⟨x3_1, x4_1, rfl, HA, HK1, HO_3, HB⟩ := hrel
  cases gk with
  | zero => exact absurd HA.out (by simp [withylaw05_Cut.l0])
  | succ k1 =>
   have H := HA.out
   clear HA
   simp only [withylaw05_Cut.l0] at H
   by_cases c4 : x4_1 < (l0.length : Int)
   rotate_left
   ·rw [if_neg c4] at H
    have c4b0 : decide (x4_1 < (l0.length : Int)) = false := decide_eq_false c4
    clear c4
    obtain rfl := Option.some.inj H
    go_wp2
    go_ret
    exact ⟨_, eW, by (with_reducible repeat (first | apply Kd.R_alloc | apply Kd.R_drewN | apply Kd.R_drew)); exact HO_3.out, by repeat (first | (with_reducible first | exact HB.out | apply below_alloc | apply pw_below_drewN | apply below_drew1) | exact HB.out)⟩
 
   rw [if_pos c4] at H
   have c4b0 : decide (x4_1 < (l0.length : Int)) = true := decide_eq_true c4
   clear c4
   by_cases c5 : x4_1 < 30
   rotate_left
   ·rw [if_neg c5] at H
    have c5b0 : decide (x4_1 < 30) = false := decide_eq_false c5
    clear c5
    obtain rfl := Option.some.inj H
    go_wp2
    go_ret
    exact ⟨_, eW, by (with_reducible repeat (first | apply Kd.R_alloc | apply Kd.R_drewN | apply Kd.R_drew)); exact HO_3.out, by repeat (first | (with_reducible first | exact HB.out | apply below_alloc | apply pw_below_drewN | apply below_drew1) | exact HB.out)⟩
   rw [if_pos c5] at H
   have c5b0 : decide (x4_1 < 30) = true := decide_eq_true c5
   clear c5
   by_cases c6 : 0 ≤ x4_1
   rotate_left
   ·rw [if_neg c6] at H
    exact absurd H (by simp)
   rw [if_pos c6] at H
   have c6b0 : decide (0 ≤ x4_1) = true := decide_eq_true c6
   clear c6
   obtain ⟨ji7, hji7⟩ : ∃ j_ : Int, (mn ((rdOf ByteArray.empty l0 x4_1).size : Int) 60) = j_ := ⟨_, rfl⟩
   replace H : (if 0 ≤ (ji7) then (if (ji7) ≤ ((rdOf ByteArray.empty l0 x4_1).size : Int) then (if x3_1.length < 8796093022208 then (withylaw05_Cut.l0 k1 l0 (x3_1 ++ [(rdOf ByteArray.empty l0 x4_1).extract 0 ((ji7) : Int).toNat]) (wrap64 (x4_1 + 1))) else (none)) else (none)) else (none)) = some r := by first | (rw [hji7] at H; exact H) | (simp only [hji7] at H ⊢; exact H)
   have hji7_ : (if 60 < ((rdOf ByteArray.empty l0 x4_1).size : Int) then 60 else ((rdOf ByteArray.empty l0 x4_1).size : Int)) = ji7 := hji7
   by_cases c8 : 0 ≤ (ji7)
   rotate_left
   ·rw [if_neg c8] at H
    exact absurd H (by simp)
   rw [if_pos c8] at H
   have c8b0 := eq_true c8
   have c8b1 : decide (0 ≤ (ji7)) = true := decide_eq_true c8
   clear c8
   by_cases c9 : (ji7) ≤ ((rdOf ByteArray.empty l0 x4_1).size : Int)
   rotate_left
   ·rw [if_neg c9] at H
    exact absurd H (by simp)
   rw [if_pos c9] at H
   have c9b0 := eq_true c9
   have c9b1 : decide ((ji7) ≤ ((rdOf ByteArray.empty l0 x4_1).size : Int)) = true := decide_eq_true c9
   clear c9
   obtain ⟨js10, hjs10⟩ : ∃ j_ : ByteArray, ((rdOf ByteArray.empty l0 x4_1).extract 0 ((ji7) : Int).toNat) = j_ := ⟨_, rfl⟩
   replace H : (if x3_1.length < 8796093022208 then (withylaw05_Cut.l0 k1 l0 (x3_1 ++ [js10]) (wrap64 (x4_1 + 1))) else (none)) = some r := by first | (rw [hjs10] at H; exact H) | (simp only [hjs10] at H ⊢; exact H)
   by_cases c11 : x3_1.length < 8796093022208
   rotate_left
   ·rw [if_neg c11] at H
    exact absurd H (by simp)
   rw [if_pos c11] at H
   have LMc11 := Aside0.mk c11
   clear c11
   obtain ⟨y605, hy605⟩ : ∃ y_ : List ByteArray, y_ = (x3_1 ++ [js10]) := ⟨_, rfl⟩
   replace H : (withylaw05_Cut.l0 k1 l0 y605 (wrap64 (x4_1 + 1))) = some r := by first | (rw [hy605]; with_reducible exact H) | (have H2_ := (Option.bind_some _ _).symm.trans H; rw [hy605]; with_reducible exact H2_) | (have H2_ := (Option.bind_some _ _).symm.trans H; with_reducible exact H2_) | with_reducible exact H | (rw [hy605]; exact H) | exact H
   have Ny605 := Aside0.mk hy605
   clear hy605
   have H' := Aside0.mk H
   clear H
   try go_wp2
   replace HO_3 := as_ (Kd.R_drew HO_3.out)
   replace HB := as_ (below_drew1 HB.out)
   have p603 : 0 ≤ (x4_1 : Int) := of_decide_eq_true aM
   have q603 : x4_1 < (l0.length : Int) := of_decide_eq_true aM
   obtain ⟨ad603, e603, hx603_0⟩ := Kd.at_string HR0.out x4_1 p603 q603
   have hw603_0 := hx603_0
   cases e603
   replace hx603_0 := (HB.out.cell (World.block_lt_of_cell? w _ hx603_0)).trans hx603_0
   replace p603 := eq_true p603
   replace q603 := eq_true q603
   have p604 : 0 ≤ (x4_1 : Int) := of_decide_eq_true aM
   have q604 : x4_1 < (l0.length : Int) := of_decide_eq_true aM
   obtain ⟨ad604, e604, hx604_0⟩ := Kd.at_string HR0.out x4_1 p604 q604
   have hw604_0 := hx604_0
   obtain rfl : ad603 = ad604 := (by injection e604)
   replace hx604_0 := (HB.out.cell (World.block_lt_of_cell? w _ hx604_0)).trans hx604_0
   replace p604 := eq_true p604
   replace q604 := eq_true q604
   refine start_ (n := 15) (S := fun w' => w'.cell? (ad603.add (x4_1).toNat) = some (.string (rdOf ByteArray.empty l0 x4_1)) ∧ w'.cell? (ad603.add (x4_1).toNat) = some (.string (rdOf ByteArray.empty l0 x4_1))) (ds := []) #[ff, ff, ff, ff, ff, ff, ff, ff, ff, ff, ff, ff, ff, ff, ff] (by kernel_rfl) rfl rfl ⟨((HB.out.cell (World.block_lt_of_cell? w _ hw603_0)).trans hw603_0), ((HB.out.cell (World.block_lt_of_cell? w _ hw604_0)).trans hw604_0)⟩ (fun hHeld => ?_); refine with_tabW withylaw05_Cut.tab5 withylaw05_Cut.bits5 (fun HT_ HW_ => ?_)
   generalize wr.drew = w12 at HO_3 HB hx603_0 hx604_0 hHeld ⊢
   refine pure_ (i := 0) (N := some 16) (v := ?_) (a' := ?_) #[tt, ff, ff, ff, ff, ff, ff, ff, ff, ff, ff, ff, ff, ff, ff] rfl rfl (any_of HT_.out (by kernel_rfl)) (fun _ _ _ h => h) (Or.inl ⟨by rfl, ?_⟩) ?_ ?_
   rotate_left
   ·intro w'
    go_simp
    with_reducible rfl
   rotate_left
   ·exact aP
   refine pure_ (i := 1) (N := some 17) (v := ?_) (a' := ?_) #[tt, tt, ff, ff, ff, ff, ff, ff, ff, ff, ff, ff, ff, ff, ff] rfl rfl (any_of HT_.out (by kernel_rfl)) (fun _ _ _ h => h) (Or.inl ⟨by rfl, ?_⟩) ?_ ?_
   rotate_left
   ·intro w'
    go_simp
    with_reducible rfl
   rotate_left
   ·exact aP
   refine pure_ (i := 2) (N := some 18) (v := ?_) (a' := ?_) #[tt, tt, tt, ff, ff, ff, ff, ff, ff, ff, ff, ff, ff, ff, ff] rfl rfl (any_of HT_.out (by kernel_rfl)) (fun _ _ _ h => h) (Or.inl ⟨by rfl, ?_⟩) ?_ ?_
   rotate_left
   ·intro w'
    go_simp
    with_reducible rfl
   rotate_left
   ·exact aP
   refine pure_ (i := 3) (N := some 19) (v := ?_) (a' := ?_) #[tt, tt, tt, tt, ff, ff, ff, ff, ff, ff, ff, ff, ff, ff, ff] rfl rfl (any_of HT_.out (by kernel_rfl)) (fun _ _ _ h => h) (Or.inl ⟨by rfl, ?_⟩) ?_ ?_
   rotate_left
   ·intro w'
    go_simp
    with_reducible rfl
   rotate_left
   ·exact aP
   refine pure_ (i := 5) (N := some 21) (v := ?_) (a' := ?_) #[tt, tt, tt, tt, ff, tt, ff, ff, ff, ff, ff, ff, ff, ff, ff] rfl rfl (any_of HT_.out (by kernel_rfl)) (fun _ _ _ h => h) (Or.inl ⟨by rfl, ?_⟩) ?_ ?_
   rotate_left
   ·intro w'
    go_simp
    with_reducible rfl
   rotate_left
   ·exact aP
   refine pure_ (i := 6) (N := some 22) (v := ?_) (a' := ?_) #[tt, tt, tt, tt, ff, tt, tt, ff, ff, ff, ff, ff, ff, ff, ff] rfl rfl (any_of HT_.out (by kernel_rfl)) (fun _ _ _ h => h) (Or.inl ⟨by rfl, ?_⟩) ?_ ?_
   rotate_left
   ·intro w'
    go_simp
    with_reducible rfl
   rotate_left
   ·exact aP
   refine pure_ (i := 7) (N := some 23) (v := ?_) (a' := ?_) #[tt, tt, tt, tt, ff, tt, tt, tt, ff, ff, ff, ff, ff, ff, ff] rfl rfl (any_of HT_.out (by kernel_rfl)) (fun _ _ _ h => h) (Or.inl ⟨by rfl, ?_⟩) ?_ ?_
   rotate_left
   ·intro w'
    go_simp
    with_reducible rfl
   rotate_left
   ·exact aP
   refine take_ (i := 4) (N := some 20) (v := ?_) (a' := ?_) #[tt, tt, tt, tt, tt, tt, tt, tt, ff, ff, ff, ff, ff, ff, ff] rfl rfl (take_ofW HT_.out HW_.out (by kernel_rfl)) (fun _ _ _ h => h) (Or.inl ⟨by rfl, ?_⟩) hHeld ?_ ?_
   rotate_left
   ·rintro w' ⟨s0, s1⟩
    go_simp
    with_reducible rfl
   rotate_left
   ·exact aP
   refine take_ (i := 8) (N := some 24) (v := ?_) (a' := ?_) #[tt, tt, tt, tt, tt, tt, tt, tt, tt, ff, ff, ff, ff, ff, ff] rfl rfl (take_ofW HT_.out HW_.out (by kernel_rfl)) (fun _ _ _ h => h) (Or.inl ⟨by rfl, ?_⟩) hHeld ?_ ?_
   rotate_left
   ·rintro w' ⟨s0, s1⟩
    go_simp
    with_reducible rfl
   rotate_left
   ·exact aP
   refine pure_ (i := 9) (N := some 25) (v := ?_) (a' := ?_) #[tt, tt, tt, tt, tt, tt, tt, tt, tt, tt, ff, ff, ff, ff, ff] rfl rfl (any_of HT_.out (by kernel_rfl)) (fun _ _ _ h => h) (Or.inl ⟨by rfl, ?_⟩) ?_ ?_
   rotate_left
   ·intro w'
    go_simp
    with_reducible rfl
   rotate_left
   ·exact aP
   refine pure_ (i := 10) (N := some 26) (v := ?_) (a' := ?_) #[tt, tt, tt, tt, tt, tt, tt, tt, tt, tt, tt, ff, ff, ff, ff] rfl rfl (any_of HT_.out (by kernel_rfl)) (fun _ _ _ h => h) (Or.inl ⟨by rfl, ?_⟩) ?_ ?_
   rotate_left
   ·intro w'
    go_simp
    with_reducible rfl
   rotate_left
   ·exact aP
   refine pure_ (i := 11) (N := some 27) (v := ?_) (a' := ?_) #[tt, tt, tt, tt, tt, tt, tt, tt, tt, tt, tt, tt, ff, ff, ff] rfl rfl (any_of HT_.out (by kernel_rfl)) (fun _ _ _ h => h) (Or.inl ⟨by rfl, ?_⟩) ?_ ?_
   rotate_left
   ·intro w'
    go_simp
    with_reducible rfl
   rotate_left
   ·exact aP
   refine one_ (i := 12) (N := some 28) #[tt, tt, tt, tt, tt, tt, tt, tt, tt, tt, tt, tt, tt, ff, ff] rfl rfl (one_of HT_.out (by kernel_rfl)) (by decide) (fun K hK => ?_)
   refine value_ (w1 := ?_) (v := ?_) (by rfl) rfl ?_ ?_
   rotate_left 2
   ·go_simp
    constructor
    ·rfl
    ·rfl
   refine hK.out _ _ ⟨(World.cell?_alloc_lt _ _ _ (World.block_lt_of_cell? _ _ (((HB.out.cell (World.block_lt_of_cell? w _ hw603_0)).trans hw603_0)))).trans (((HB.out.cell (World.block_lt_of_cell? w _ hw603_0)).trans hw603_0)), (World.cell?_alloc_lt _ _ _ (World.block_lt_of_cell? _ _ (((HB.out.cell (World.block_lt_of_cell? w _ hw604_0)).trans hw604_0)))).trans (((HB.out.cell (World.block_lt_of_cell? w _ hw604_0)).trans hw604_0))⟩ (fun hHeld => ?_)
   clear hK K
   refine norm_ (a' := ?_) ?_ ?_
   rotate_left
   ·show Act.put _ (some 28) _ = _
    simp only [Act.put, List.setIfInBounds_toArray, List.set_cons_zero, List.set_cons_succ, i64_w, i32_w]
    rfl
   refine one_ (i := 13) (N := some 29) #[tt, tt, tt, tt, tt, tt, tt, tt, tt, tt, tt, tt, tt, tt, ff] rfl rfl (one_of HT_.out (by kernel_rfl)) (by decide) (fun K hK => ?_)
   refine Kd.R_append_step Kd.string (w0 := w) w.heap.size (by rfl) (.tmp 16) (.tmp 28) 22 9 (.string ⟨#[]⟩) 16 rfl Try.underlying22 info9 rfl (by decide) (by omega) u3 x3_1 js10 [.string js10] (fun _ => True) (fun _ => False) rfl rfl ?aP (fun _ hk => hk.elim) ?aF ?aO ?aB ?aS ?aL ?_
   (case aP => exact rfl)
   (case aB => exact bA)
   (case aF => exact (fun _ _ => trivial))
   (case aO => exact (by (with_reducible repeat (first | apply Kd.R_alloc | apply Kd.R_drewN | apply Kd.R_drew)); exact HO_3.out))
   (case aS => exact (below_size bA))
   (case aL => have := LMc11.out; omega)
   intro v606 w13 ho hb hg hat
   rw [← Ny605.out] at ho
   have HO607 := as_ (ho)
   replace HB := as_ (hb)
   clear HO_3
   clear ho hb hg hat
   refine hK.out _ _ ⟨((HB.out.cell (World.block_lt_of_cell? w _ hw603_0)).trans hw603_0), ((HB.out.cell (World.block_lt_of_cell? w _ hw604_0)).trans hw604_0)⟩ (fun hHeld => ?_)
   clear hK K
   refine norm_ (a' := ?_) ?_ ?_
   rotate_left
   ·show Act.put _ (some 29) _ = _
    simp only [Act.put, List.setIfInBounds_toArray, List.set_cons_zero, List.set_cons_succ, i64_w, i32_w]
    rfl
   refine pure_ (i := 14) (N := some 3) (v := ?_) (a' := ?_) #[tt, tt, tt, tt, tt, tt, tt, tt, tt, tt, tt, tt, tt, tt, tt] rfl rfl (any_of HT_.out (by kernel_rfl)) (fun _ _ _ h => h) (Or.inl ⟨by rfl, ?_⟩) ?_ ?_
   rotate_left
   ·intro w'
    go_simp
    with_reducible rfl
   rotate_left
   ·exact aP
   refine done_ (done_of HT_.out (by kernel_rfl)) ?_
   try go_wp2
   go_roundg k1
   case measure => have := HK1.out; omega
   case rel => exact ⟨(y605), (wrap64 (x4_1 + 1)), (by first | rfl | (simp; done) | (simp [*]; done)), H', ⟨by have := HK1.out; omega⟩, ⟨by (with_reducible repeat (first | apply Kd.R_alloc | apply Kd.R_drewN | apply Kd.R_drew)); exact HO607.out⟩, ⟨by repeat (first | (with_reducible first | exact HB.out | apply below_alloc | apply pw_below_drewN | apply below_drew1) | exact HB.out)⟩⟩
end Go.Proofs.Ytfialmegikegbaa.P
