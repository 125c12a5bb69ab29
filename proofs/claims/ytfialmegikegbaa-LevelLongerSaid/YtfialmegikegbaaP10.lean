/- What is proved here: for functions of the Go text, a Lean function each, and that the call comes to just what it answers. Conditions: as each contract names them. Written by wip/tools/myprint.py, a driver of the print of the kit. -/
import Derived.Test.YtfialmegikegbaaP0
import Derived.Test.YtfialmegikegbaaP1
import Derived.Test.YtfialmegikegbaaP5
import Derived.Test.YtfialmegikegbaaP7
import Derived.Test.YtfialmegikegbaaP9
import Derived.Test.YtfialmegikegbaaWAbbr
namespace Go.Proofs.Ytfialmegikegbaa.P
open Go.RowKit Go.Proofs.YtfialmegikegbaaW.PrintWords Go.Proofs.YtfialmegikegbaaW.PrintLast Go.Proofs.YtfialmegikegbaaW.PrintMore Go.Proofs.YtfialmegikegbaaW.Abbr
-- PACKED
attribute [local go_sem] max2_int min2_int max_two min_two max_three min_three max_four min_four Go.Proofs.YtfialmegikegbaaLaws.str_leq Go.Proofs.YtfialmegikegbaaLaws.str_gtr Go.Proofs.YtfialmegikegbaaLaws.str_geq Go.Proofs.YtfialmegikegbaaLaws.max2_str Go.Proofs.YtfialmegikegbaaLaws.min2_str   -- for this text's walks alone
set_option linter.unusedVariables false
set_option linter.unusedSimpArgs false

/-! ### withylaw17_LevelLonger: function 6 -/
mutual
def withylaw17_LevelLonger.l0 : Nat → List ByteArray → ByteArray → List ByteArray → Int → Option (Bool)
 | 0, _, _, _, _ => none
 | k + 1, x0, x1, x5, x6 => if x6 < (x0.length : Int) then (if 0 ≤ x6 then (if 0 ≤ (mn ((rdOf ByteArray.empty x0 x6).size : Int) 6) then (if (mn ((rdOf ByteArray.empty x0 x6).size : Int) 6) ≤ ((rdOf ByteArray.empty x0 x6).size : Int) then (if ((rdOf ByteArray.empty x0 x6).extract 0 ((mn ((rdOf ByteArray.empty x0 x6).size : Int) 6) : Int).toNat).toList = ([] : List UInt8) then (withylaw17_LevelLonger.l0 k x0 x1 x5 (wrap64 (x6 + 1))) else (if (x5.length : Int) = 0 then (if x5.length < 8796093022208 then (withylaw17_LevelLonger.l0 k x0 x1 (x5 ++ [(rdOf ByteArray.empty x0 x6).extract 0 ((mn ((rdOf ByteArray.empty x0 x6).size : Int) 6) : Int).toNat]) (wrap64 (x6 + 1))) else (none)) else (if 0 ≤ (wrap64 ((x5.length : Int) - 1)) then (if (wrap64 ((x5.length : Int) - 1)) < (x5.length : Int) then (if (Op.bytesLess ((rdOf ByteArray.empty x5 (wrap64 ((x5.length : Int) - 1))).toList) (((rdOf ByteArray.empty x0 x6).extract 0 ((mn ((rdOf ByteArray.empty x0 x6).size : Int) 6) : Int).toNat).toList)) = true then (if x5.length < 8796093022208 then (withylaw17_LevelLonger.l0 k x0 x1 (x5 ++ [(rdOf ByteArray.empty x0 x6).extract 0 ((mn ((rdOf ByteArray.empty x0 x6).size : Int) 6) : Int).toNat]) (wrap64 (x6 + 1))) else (none)) else (withylaw17_LevelLonger.l0 k x0 x1 x5 (wrap64 (x6 + 1)))) else (none)) else (none)))) else (none)) else (none)) else (none)) else (withylaw17_LevelLonger.l1 k x1 x5 (([] : List ByteArray)) 0)
def withylaw17_LevelLonger.l1 : Nat → ByteArray → List ByteArray → List ByteArray → Int → Option (Bool)
 | 0, _, _, _, _ => none
 | k + 1, x1, x5, x8, x9 => if x9 < (x5.length : Int) then (if 0 ≤ x9 then (if x1.size + (rdOf ByteArray.empty x5 x9).size ≤ 9223372036854775807 then (if x8.length < 8796093022208 then (withylaw17_LevelLonger.l1 k x1 x5 (x8 ++ [x1 ++ (rdOf ByteArray.empty x5 x9)]) (wrap64 (x9 + 1))) else (none)) else (none)) else (none)) else ((level_Right.f k x5 128).bind fun t630 => (if t630 = true then ((level_Right.f k x8 128).bind fun t631 => (withylaw17_LevelLonger.j2 k x5 x8 (!t631))) else (withylaw17_LevelLonger.j2 k x5 x8 true)))
def withylaw17_LevelLonger.j2 : Nat → List ByteArray → List ByteArray → Bool → Option (Bool)
 | 0, _, _, _ => none
 | k + 1, x5, x8, x81 => if x81 = true then (none) else ((level_Group.f k x5 128).bind fun t632 => ((level_Group.f k x8 128).bind fun t635 => (if (t632.length : Int) = 0 then (none) else (if (t635.length : Int) = 0 then (none) else (if 0 < (t635.length : Int) then (if 0 < (t632.length : Int) then (if (rd t635 0) ≤ (rd t632 0) then (if (t635.length : Int) ≥ (t632.length : Int) then (if (rd t635 0) ≥ (mn 2 (wrap64 ((x8.length : Int) + 1))) then ((withylaw17_fixed.f k).bind fun t641 => (some t641)) else (none)) else (none)) else (none)) else (none)) else (none))))))
end
def withylaw17_LevelLonger.f (k : Nat) (l0 : List ByteArray) (a1 : ByteArray) : Option (Bool) := if 0 ≤ (mn (a1.size : Int) 6) then (if (mn (a1.size : Int) 6) ≤ (a1.size : Int) then ((withylaw05_Cut.f k l0).bind fun t611 => (withylaw17_LevelLonger.l0 k t611 (a1.extract 0 ((mn (a1.size : Int) 6) : Int).toNat) (([] : List ByteArray)) 0)) else (none)) else (none)
theorem withylaw17_LevelLonger.mono_l : ∀ k, (∀ y0 y1 y2 y3, LeO (withylaw17_LevelLonger.l0 k y0 y1 y2 y3) (withylaw17_LevelLonger.l0 (k + 1) y0 y1 y2 y3)) ∧ (∀ y0 y1 y2 y3, LeO (withylaw17_LevelLonger.l1 k y0 y1 y2 y3) (withylaw17_LevelLonger.l1 (k + 1) y0 y1 y2 y3)) ∧ (∀ y0 y1 y2, LeO (withylaw17_LevelLonger.j2 k y0 y1 y2) (withylaw17_LevelLonger.j2 (k + 1) y0 y1 y2))
 | 0 => ⟨fun _ _ _ _ r h => by simp [withylaw17_LevelLonger.l0] at h, fun _ _ _ _ r h => by simp [withylaw17_LevelLonger.l1] at h, fun _ _ _ r h => by simp [withylaw17_LevelLonger.j2] at h⟩
 | k + 1 => by
  obtain ⟨ih0, ih1, ih2⟩ := withylaw17_LevelLonger.mono_l k
  refine ⟨?_, ?_, ?_⟩
  ·intro y0 y1 y2 y3
   unfold withylaw17_LevelLonger.l0
   repeat' first
   | (with_reducible exact ih0 _ _ _ _)
   | (with_reducible exact ih1 _ _ _ _)
   | (with_reducible exact ih2 _ _ _)
   | (with_reducible exact level_Group.mono _ _ _)
   | (with_reducible exact level_Right.mono _ _ _)
   | (with_reducible exact withylaw05_Cut.mono _ _)
   | (with_reducible exact withylaw17_fixed.mono _)
   | (with_reducible exact LeO.refl _)
   | (with_reducible exact LeO.none _)
   | (with_reducible refine LeO.ite ?_ ?_)
   | (with_reducible refine LeO.bind ?_ (fun _ => ?_))
   | exact ih0 _ _ _ _
   | exact ih1 _ _ _ _
   | exact ih2 _ _ _
   | exact level_Group.mono _ _ _
   | exact level_Right.mono _ _ _
   | exact withylaw05_Cut.mono _ _
   | exact withylaw17_fixed.mono _
   | exact LeO.none _
   | refine LeO.ite ?_ ?_
   | refine LeO.bind ?_ (fun _ => ?_)
  ·intro y0 y1 y2 y3
   unfold withylaw17_LevelLonger.l1
   repeat' first
   | (with_reducible exact ih0 _ _ _ _)
   | (with_reducible exact ih1 _ _ _ _)
   | (with_reducible exact ih2 _ _ _)
   | (with_reducible exact level_Group.mono _ _ _)
   | (with_reducible exact level_Right.mono _ _ _)
   | (with_reducible exact withylaw05_Cut.mono _ _)
   | (with_reducible exact withylaw17_fixed.mono _)
   | (with_reducible exact LeO.refl _)
   | (with_reducible exact LeO.none _)
   | (with_reducible refine LeO.ite ?_ ?_)
   | (with_reducible refine LeO.bind ?_ (fun _ => ?_))
   | exact ih0 _ _ _ _
   | exact ih1 _ _ _ _
   | exact ih2 _ _ _
   | exact level_Group.mono _ _ _
   | exact level_Right.mono _ _ _
   | exact withylaw05_Cut.mono _ _
   | exact withylaw17_fixed.mono _
   | exact LeO.none _
   | refine LeO.ite ?_ ?_
   | refine LeO.bind ?_ (fun _ => ?_)
  ·intro y0 y1 y2
   unfold withylaw17_LevelLonger.j2
   repeat' first
   | (with_reducible exact ih0 _ _ _ _)
   | (with_reducible exact ih1 _ _ _ _)
   | (with_reducible exact ih2 _ _ _)
   | (with_reducible exact level_Group.mono _ _ _)
   | (with_reducible exact level_Right.mono _ _ _)
   | (with_reducible exact withylaw05_Cut.mono _ _)
   | (with_reducible exact withylaw17_fixed.mono _)
   | (with_reducible exact LeO.refl _)
   | (with_reducible exact LeO.none _)
   | (with_reducible refine LeO.ite ?_ ?_)
   | (with_reducible refine LeO.bind ?_ (fun _ => ?_))
   | exact ih0 _ _ _ _
   | exact ih1 _ _ _ _
   | exact ih2 _ _ _
   | exact level_Group.mono _ _ _
   | exact level_Right.mono _ _ _
   | exact withylaw05_Cut.mono _ _
   | exact withylaw17_fixed.mono _
   | exact LeO.none _
   | refine LeO.ite ?_ ?_
   | refine LeO.bind ?_ (fun _ => ?_)
theorem withylaw17_LevelLonger.mono : ∀ a0 a1 k, LeO (withylaw17_LevelLonger.f k a0 a1) (withylaw17_LevelLonger.f (k + 1) a0 a1) := by
 intro a0 a1 k
 obtain ⟨ih0, ih1, ih2⟩ := withylaw17_LevelLonger.mono_l k
 unfold withylaw17_LevelLonger.f
 repeat' first
   | (with_reducible exact ih0 _ _ _ _)
   | (with_reducible exact ih1 _ _ _ _)
   | (with_reducible exact ih2 _ _ _)
   | (with_reducible exact level_Group.mono _ _ _)
   | (with_reducible exact level_Right.mono _ _ _)
   | (with_reducible exact withylaw05_Cut.mono _ _)
   | (with_reducible exact withylaw17_fixed.mono _)
   | (with_reducible exact LeO.refl _)
   | (with_reducible exact LeO.none _)
   | (with_reducible refine LeO.ite ?_ ?_)
   | (with_reducible refine LeO.bind ?_ (fun _ => ?_))
   | exact ih0 _ _ _ _
   | exact ih1 _ _ _ _
   | exact ih2 _ _ _
   | exact level_Group.mono _ _ _
   | exact level_Right.mono _ _ _
   | exact withylaw05_Cut.mono _ _
   | exact withylaw17_fixed.mono _
   | exact LeO.none _
   | refine LeO.ite ?_ ?_
   | refine LeO.bind ?_ (fun _ => ?_)
def withylaw17_LevelLonger.T7 : Bool × List (List Nat × List Nat) := (true, [([], []), ([], []), ([0, 1], [0, 1]), ([2], [2]), ([], []), ([], []), ([4, 5], [4, 5]), ([6], [6]), ([7], [7]), ([8], [8]), ([3, 9], [3, 9]), ([10, 0, 1, 2, 3, 4, 5, 6, 7, 8, 9, 10], [10])])
def withylaw17_LevelLonger.B7 : List Nat := [0, 0, 3, 7, 0, 0, 48, 112, 240, 496, 1023, 2047]
theorem withylaw17_LevelLonger.tab7 : rtab .any (opsOf Try.f6 7) = withylaw17_LevelLonger.T7 := by kernel_rfl
theorem withylaw17_LevelLonger.bits7 : waitsOk withylaw17_LevelLonger.T7.2 withylaw17_LevelLonger.B7 = true := by kernel_rfl
def withylaw17_LevelLonger.T20 : Bool × List (List Nat × List Nat) := (true, [([], []), ([0], [0]), ([1], [1]), ([], []), ([3], [3]), ([4], [4]), ([2, 5], [2, 5]), ([6], [6]), ([7], [7]), ([8, 7], [7, 8]), ([7], [7]), ([10, 7], [7, 10]), ([9, 11, 7], [7, 9, 11]), ([7, 12], [7, 12]), ([13, 7], [13]), ([14], [14]), ([15, 14], [14, 15]), ([16, 14], [14, 16]), ([14], [14]), ([18, 14], [14, 18]), ([19, 14], [14, 19]), ([20, 14], [14, 20]), ([17, 21, 14], [14, 17, 21]), ([14, 22], [14, 22]), ([23, 14], [23]), ([24, 24], [24]), ([24, 25], [24, 25]), ([26, 25, 0, 1, 2, 3, 4, 5, 6, 7, 8, 9, 10, 11, 12, 13, 14, 15, 16, 17, 18, 19, 20, 21, 22, 23, 24, 25, 26], [26])])
def withylaw17_LevelLonger.B20 : List Nat := [0, 1, 3, 0, 8, 24, 63, 127, 255, 511, 255, 1279, 4095, 8191, 16383, 32767, 65535, 131071, 32767, 294911, 819199, 1867775, 4194303, 8388607, 16777215, 33554431, 67108863, 134217727]
theorem withylaw17_LevelLonger.tab20 : rtab .any (opsOf Try.f6 20) = withylaw17_LevelLonger.T20 := by kernel_rfl
theorem withylaw17_LevelLonger.bits20 : waitsOk withylaw17_LevelLonger.T20.2 withylaw17_LevelLonger.B20 = true := by kernel_rfl
set_option maxHeartbeats 8000000 in
set_option maxRecDepth 100000 in
theorem withylaw17_LevelLonger.calls (k : Nat) (A0 : Option Addr) (c0 : Nat) (l0 : List ByteArray) (a1 : ByteArray) (r : Bool) (w : World) (hr0 : Kd.C Kd.string w A0 l0.length l0) (hc0 : l0.length ≤ c0) (h : withylaw17_LevelLonger.f k l0 a1 = some r) :
  Calls Try.prog 6 #[.slice A0 l0.length c0, .string a1] w fun e w' => e = .returned (.bool r) ∧ Below w.heap.size w w' := by
 have HR0 := Aside0.mk hr0
 have HC0 := Aside0.mk hc0
 clear hr0 hc0
 have HB := as_ (Below.refl w.heap.size w)
 have H : (if 0 ≤ (mn (a1.size : Int) 6) then (if (mn (a1.size : Int) 6) ≤ (a1.size : Int) then ((withylaw05_Cut.f k l0).bind fun t611 => (withylaw17_LevelLonger.l0 k t611 (a1.extract 0 ((mn (a1.size : Int) 6) : Int).toNat) (([] : List ByteArray)) 0)) else (none)) else (none)) = some r := h
 clear h
 obtain ⟨ji3, hji3⟩ : ∃ j_ : Int, (mn (a1.size : Int) 6) = j_ := ⟨_, rfl⟩
 replace H : (if 0 ≤ (ji3) then (if (ji3) ≤ (a1.size : Int) then ((withylaw05_Cut.f k l0).bind fun t611 => (withylaw17_LevelLonger.l0 k t611 (a1.extract 0 ((ji3) : Int).toNat) (([] : List ByteArray)) 0)) else (none)) else (none)) = some r := by first | (rw [hji3] at H; exact H) | (simp only [hji3] at H ⊢; exact H)
 (try (have hji3h : ji3 ≤ 6 := by (rw [← hji3]; unfold mn; (repeat' split) <;> omega)))
 (try (have hji3g : ji3 ≤ 64 := by omega))
 (try (have hji3l : 0 ≤ ji3 := by (rw [← hji3]; unfold mn; (repeat' split) <;> omega)))
 (try (have hji3m : 0 ≤ ji3 := by omega))
 have hji3_ : (if 6 < (a1.size : Int) then 6 else (a1.size : Int)) = ji3 := hji3
 by_cases c4 : 0 ≤ (ji3)
 rotate_left
 ·rw [if_neg c4] at H
  exact absurd H (by simp)
 
 rw [if_pos c4] at H
 have c4b0 := eq_true c4
 have c4b1 : decide (0 ≤ (ji3)) = true := decide_eq_true c4
 clear c4
 by_cases c5 : (ji3) ≤ (a1.size : Int)
 rotate_left
 ·rw [if_neg c5] at H
  exact absurd H (by simp)
 rw [if_pos c5] at H
 have c5b0 := eq_true c5
 have c5b1 : decide ((ji3) ≤ (a1.size : Int)) = true := decide_eq_true c5
 clear c5
 obtain ⟨js6, hjs6⟩ : ∃ j_ : ByteArray, (a1.extract 0 ((ji3) : Int).toNat) = j_ := ⟨_, rfl⟩
 replace H : ((withylaw05_Cut.f k l0).bind fun t611 => (withylaw17_LevelLonger.l0 k t611 js6 (([] : List ByteArray)) 0)) = some r := by first | (rw [hjs6] at H; exact H) | (simp only [hjs6] at H ⊢; exact H)
 obtain ⟨y608, hy608⟩ : ∃ y_ : List ByteArray, y_ = (([] : List ByteArray)) := ⟨_, rfl⟩
 replace H : ((withylaw05_Cut.f k l0).bind fun t611 => (withylaw17_LevelLonger.l0 k t611 js6 y608 0)) = some r := by first | (rw [hy608]; with_reducible exact H) | (have H2_ := (Option.bind_some _ _).symm.trans H; rw [hy608]; with_reducible exact H2_) | (have H2_ := (Option.bind_some _ _).symm.trans H; with_reducible exact H2_) | with_reducible exact H | (rw [hy608]; exact H) | exact H
 have Ny608 := Aside0.mk hy608
 clear hy608
 replace H := bM H
 obtain ⟨t611, A70, H⟩ := H
 replace H : (withylaw17_LevelLonger.l0 k t611 js6 y608 0) = some r := H
 have A7 := Aside0.mk A70
 clear A70
 have H' := Aside0.mk H
 clear H
 go_enter Try.func6, Try.ntmps6
 go_wp2_with (first | ((with_reducible refine gate_dst (N := 17) rfl ?_); (try (refine gate_guard (by rfl) ?_; dsimp only)); refine Kd.R_lit Kd.string _ 9 ?hg (N := 17) ?hd (xs := ([] : List ByteArray)) (inner := []) (ok := fun _ => True) (okp := fun _ => True) ?hr ?hp (fun _ hk => hk) trivial (Below.refl _ _) (Nat.le_refl _) (by simp) ?_; (case hd => rfl); (case hg => rfl); (case hr => first | (go_simp; done) | (go_simp; rfl)); (case hp => exact (Reps.none _ _)); intro v609 w8 ho9 hb hg_ hnew_; clear hg_ hnew_; (first | rw [← Ny608.out] at ho9 | (simp only [Int.reduceToNat] at ho9; rw [← Ny608.out] at ho9)); have HO610 := as_ (Kd.R_lower ho9 (below_size bA)); replace HB := as_ (below_step bA hb); clear hb ho9) | ((with_reducible refine gate_callee (f := 27) rfl ?_); refine goesL_ (some 19) rfl rfl Try.func27 (by kernel_rfl) rfl #[.slice A0 l0.length c0] rfl aO ?_; (with_reducible refine (withylaw05_Cut.calls k _ _ l0 t611 _ ?side1 ?side2 A7.out).mono ?_); (case side1 => repeat (first | exact (Kd.C_below HR0.out HB.out) | (with_reducible refine Kd.C_alloc ?_ _) | (with_reducible refine Kd.C_drewN ?_ _) | (with_reducible refine Kd.C_drew ?_))); (case side2 => exact HC0.out); rintro e w10 ⟨v612, rfl, ho0, hb⟩; refine ⟨_, rfl, ?_⟩; have HO613 := as_ (Kd.R_lower (Kd.R_new' ho0 (Kd.R_lt (by (with_reducible repeat (first | apply Kd.R_alloc | apply Kd.R_drewN | apply Kd.R_drew)); exact HO610.out))) (below_size bA)); replace HO610 := as_ (Kd.R_elder' (by (with_reducible repeat (first | apply Kd.R_alloc | apply Kd.R_drewN | apply Kd.R_drew)); exact HO610.out) (Kd.R_base ho0) hb); replace HB := as_ (below_step bA hb); (try clear hb); (try clear hb2); (try clear hk); (try clear hi); (try clear ho0)))
 go_loopg [5, 6] k (fun kq v5 v6 w' => ∃ (x5_1 : List ByteArray) (x6_1 : Int), v6 = .int .i64 x6_1 ∧ Aside0 (withylaw17_LevelLonger.l0 kq t611 js6 x5_1 x6_1 = some r) ∧ Aside0 (kq ≤ k) ∧ Aside0 (Kd.R Kd.string 9 w' w.heap.size (fun k_ => some k_ ≠ (v5 : Value).ownBlock) v612 t611) ∧ Aside0 (Kd.R Kd.string 9 w' w.heap.size (fun k_ => some k_ ≠ (v612 : Value).ownBlock) v5 x5_1) ∧ Aside0 (Below w.heap.size w w'))
 case atStart => exact ⟨(y608), (0), (by first | rfl | (simp; done) | (simp [*]; done)), H', ⟨Nat.le_refl _⟩, ⟨by (with_reducible repeat (first | apply Kd.R_alloc | apply Kd.R_drewN | apply Kd.R_drew)); exact Kd.R_mono HO613.out (fun _ hk => hk.2)⟩, ⟨by (with_reducible repeat (first | apply Kd.R_alloc | apply Kd.R_drewN | apply Kd.R_drew)); exact Kd.R_mono HO610.out (fun _ hk => hk.2)⟩, ⟨by repeat (first | (with_reducible first | exact HB.out | apply below_alloc | apply pw_below_drewN | apply below_drew1) | exact HB.out)⟩⟩
 case round =>
  clear H'
  try clear c2
  try clear p2
  try clear c4
  try clear c4b0
  try clear c4b1
  try clear c5
  try clear c5b0
  try clear c5b1
  try clear c6
  obtain ⟨x5_1, x6_1, rfl, HA, HK1, HO_0, HO_5, HB⟩ := hrel
  cases gk with
  | zero => exact absurd HA.out (by simp [withylaw17_LevelLonger.l0])
  | succ k1 =>
   have H := HA.out
   clear HA
   simp only [withylaw17_LevelLonger.l0] at H
   by_cases c11 : x6_1 < (t611.length : Int)
   rotate_left
   ·rw [if_neg c11] at H
    have c11b0 : decide (x6_1 < (t611.length : Int)) = false := decide_eq_false c11
    clear c11
    obtain ⟨y623, hy623⟩ : ∃ y_ : List ByteArray, y_ = (([] : List ByteArray)) := ⟨_, rfl⟩
    replace H : (withylaw17_LevelLonger.l1 k1 js6 x5_1 y623 0) = some r := by first | (rw [hy623]; with_reducible exact H) | (have H2_ := (Option.bind_some _ _).symm.trans H; rw [hy623]; with_reducible exact H2_) | (have H2_ := (Option.bind_some _ _).symm.trans H; with_reducible exact H2_) | with_reducible exact H | (rw [hy623]; exact H) | exact H
    have Ny623 := Aside0.mk hy623
    clear hy623
    have H' := Aside0.mk H
    clear H
    obtain ⟨Ao38, co38, eo38⟩ := Kd.R_slice HO_0.out
    subst eo38
    go_wp2_with (first | ((with_reducible refine gate_dst (N := 58) rfl ?_); (try (refine gate_guard (by rfl) ?_; dsimp only)); refine Kd.R_lit Kd.string _ 9 ?hg (N := 58) ?hd (xs := ([] : List ByteArray)) (inner := []) (ok := fun _ => True) (okp := fun _ => True) ?hr ?hp (fun _ hk => hk) trivial (Below.refl _ _) (Nat.le_refl _) (by simp) ?_; (case hd => rfl); (case hg => rfl); (case hr => first | (go_simp; done) | (go_simp; rfl)); (case hp => exact (Reps.none _ _)); intro v624 w39 ho40 hb hg_ hnew_; clear hg_ hnew_; (first | rw [← Ny623.out] at ho40 | (simp only [Int.reduceToNat] at ho40; rw [← Ny623.out] at ho40)); have HO625 := as_ (Kd.R_lower (Kd.R_new' (Kd.R_new' ho40 (Kd.R_lt (by (with_reducible repeat (first | apply Kd.R_alloc | apply Kd.R_drewN | apply Kd.R_drew)); exact HO_0.out))) (Kd.R_lt (by (with_reducible repeat (first | apply Kd.R_alloc | apply Kd.R_drewN | apply Kd.R_drew)); exact HO_5.out))) (below_size bA)); replace HO_0 := as_ (Kd.R_elder' (by (with_reducible repeat (first | apply Kd.R_alloc | apply Kd.R_drewN | apply Kd.R_drew)); exact HO_0.out) (Kd.R_base ho40) hb); replace HO_5 := as_ (Kd.R_elder' (by (with_reducible repeat (first | apply Kd.R_alloc | apply Kd.R_drewN | apply Kd.R_drew)); exact HO_5.out) (Kd.R_base ho40) hb); replace HB := as_ (below_step bA hb); clear hb ho40))
    go_loopg [8, 9] k1 (fun kq v8 v9 w' => ∃ (x8_2 : List ByteArray) (x9_2 : Int), v9 = .int .i64 x9_2 ∧ Aside0 (withylaw17_LevelLonger.l1 kq js6 x5_1 x8_2 x9_2 = some r) ∧ Aside0 (kq ≤ k1) ∧ Aside0 (Kd.R Kd.string 9 w' w.heap.size (fun k_ => some k_ ≠ (v8 : Value).ownBlock) u5 x5_1) ∧ Aside0 (Kd.R Kd.string 9 w' w.heap.size (fun k_ => some k_ ≠ (u5 : Value).ownBlock) v8 x8_2) ∧ Aside0 (Below w.heap.size w w'))
    case atStart => exact ⟨(y623), (0), (by first | rfl | (simp; done) | (simp [*]; done)), H', ⟨Nat.le_refl _⟩, ⟨by (with_reducible repeat (first | apply Kd.R_alloc | apply Kd.R_drewN | apply Kd.R_drew)); exact Kd.R_mono HO_5.out (fun _ hk => hk.2)⟩, ⟨by (with_reducible repeat (first | apply Kd.R_alloc | apply Kd.R_drewN | apply Kd.R_drew)); exact Kd.R_mono HO625.out (fun _ hk => hk.2)⟩, ⟨by repeat (first | (with_reducible first | exact HB.out | apply below_alloc | apply pw_below_drewN | apply below_drew1) | exact HB.out)⟩⟩
    case round =>
     clear H'
     try clear c1
     try clear c2
     try clear p2
     try clear c3
     try clear p6
     try clear q6
     try clear hx6
     try clear c11
     try clear c11b0
     try clear c12
     try clear c14
     try clear c15
     try clear c17
     try clear c17b0
     try clear c17b1
     try clear c20
     try clear c20b0
     try clear c20b1
     try clear c20b2
     try clear c21
     try clear c27
     try clear c27b0
     try clear c28
     try clear c28b0
     try clear c29
     try clear c29b0
     try clear c30
     try clear hx614_0
     try clear hx615_0
     try clear hx619_0
     try clear p614
     try clear p615
     try clear p619
     try clear q614
     try clear q615
     try clear q619
     obtain ⟨x8_2, x9_2, rfl, HA, HK2, HO_5, HO_8, HB⟩ := hrel
     cases gk with
     | zero => exact absurd HA.out (by simp [withylaw17_LevelLonger.l1])
     | succ k2 =>
      have H := HA.out
      clear HA
      simp only [withylaw17_LevelLonger.l1] at H
      by_cases c41 : x9_2 < (x5_1.length : Int)
      ·rw [if_pos c41] at H
       have c41b0 : decide (x9_2 < (x5_1.length : Int)) = true := decide_eq_true c41
       clear c41
       by_cases c42 : 0 ≤ x9_2
       rotate_left
       ·rw [if_neg c42] at H
        exact absurd H (by simp)
       rw [if_pos c42] at H
       have c42b0 : decide (0 ≤ x9_2) = true := decide_eq_true c42
       clear c42
       by_cases c43 : js6.size + (rdOf ByteArray.empty x5_1 x9_2).size ≤ 9223372036854775807
       rotate_left
       ·rw [if_neg c43] at H
        exact absurd H (by simp)
       rw [if_pos c43] at H
       have c43b0 := eq_true c43
       have c43b1 : decide (js6.size + (rdOf ByteArray.empty x5_1 x9_2).size ≤ 9223372036854775807) = true := decide_eq_true c43
       try have c43b2 : (9223372036854775807 < js6.size + (rdOf ByteArray.empty x5_1 x9_2).size) = False := eq_false (Nat.not_lt.2 c43)
       obtain ⟨js44, hjs44⟩ : ∃ j_ : ByteArray, (js6 ++ (rdOf ByteArray.empty x5_1 x9_2)) = j_ := ⟨_, rfl⟩
       replace H : (if x8_2.length < 8796093022208 then (withylaw17_LevelLonger.l1 k2 js6 x5_1 (x8_2 ++ [js44]) (wrap64 (x9_2 + 1))) else (none)) = some r := by first | (rw [hjs44] at H; exact H) | (simp only [hjs44] at H ⊢; exact H)
       by_cases c45 : x8_2.length < 8796093022208
       rotate_left
       ·rw [if_neg c45] at H
        exact absurd H (by simp)
       rw [if_pos c45] at H
       have LMc45 := Aside0.mk c45
       clear c45
       obtain ⟨y627, hy627⟩ : ∃ y_ : List ByteArray, y_ = (x8_2 ++ [js44]) := ⟨_, rfl⟩
       replace H : (withylaw17_LevelLonger.l1 k2 js6 x5_1 y627 (wrap64 (x9_2 + 1))) = some r := by first | (rw [hy627]; with_reducible exact H) | (have H2_ := (Option.bind_some _ _).symm.trans H; rw [hy627]; with_reducible exact H2_) | (have H2_ := (Option.bind_some _ _).symm.trans H; with_reducible exact H2_) | with_reducible exact H | (rw [hy627]; exact H) | exact H
       have Ny627 := Aside0.mk hy627
       clear hy627
       have H' := Aside0.mk H
       clear H
       obtain ⟨Ao46, co46, eo46⟩ := Kd.R_slice HO_5.out
       subst eo46
       have p626 : 0 ≤ (x9_2 : Int) := of_decide_eq_true aM
       have q626 : x9_2 < (x5_1.length : Int) := of_decide_eq_true aM
       obtain ⟨ad626, e626, hx626_0⟩ := Kd.at_string (Kd.R_reads' HO_5.out).2.2 x9_2 p626 q626
       cases e626
       replace p626 := eq_true p626
       replace q626 := eq_true q626
       go_wp2_with (first | ((with_reducible refine gate_builtin (b := .append) (xs := #[.tmp 65, .tmp 72]) rfl ?_); (try (refine gate_guard (by rfl) ?_; dsimp only)); at_builtin; refine Kd.R_append Kd.string (w0 := w) w.heap.size rfl (.tmp 65) (.tmp 72) 22 9 (.string ⟨#[]⟩) 16 rfl Try.underlying22 info9 rfl (by decide) (by omega) u8 x8_2 js44 [.string js44] (fun k_ => some k_ ≠ (.slice (some ad626) x5_1.length co46 : Value).ownBlock) (fun _ => False) rfl rfl ?aP (fun _ hk => hk.elim) ?aF ?aO ?aB ?aS ?aL ?_; (case aP => exact rfl); (case aB => exact bA); (case aF => exact (fun k_ hk => Kd.fresh' (Kd.R_lt (by (with_reducible repeat (first | apply Kd.R_alloc | apply Kd.R_drewN | apply Kd.R_drew)); exact HO_5.out)) k_ hk)); (case aO => exact (by (with_reducible repeat (first | apply Kd.R_alloc | apply Kd.R_drewN | apply Kd.R_drew)); exact HO_8.out)); (case aS => exact (below_size bA)); (case aL => have := LMc45.out; omega); intro v628 w47 ho hb hg hat; rw [← Ny627.out] at ho; have HO629 := as_ (ho); replace HO_5 := as_ (Kd.R_after (ok := (fun _ => True)) (by (with_reducible repeat (first | apply Kd.R_alloc | apply Kd.R_drewN | apply Kd.R_drew)); exact Kd.R_mono HO_5.out (fun _ hk => ⟨trivial, hk⟩)) hg hat); replace HB := as_ (hb); clear HO_8; clear ho hb hg hat))
       go_roundg k2
       case measure => have := HK1.out; have := HK2.out; omega
       case rel => exact ⟨(y627), (wrap64 (x9_2 + 1)), (by first | rfl | (simp; done) | (simp [*]; done)), H', ⟨by have := HK1.out; have := HK2.out; omega⟩, ⟨by (with_reducible repeat (first | apply Kd.R_alloc | apply Kd.R_drewN | apply Kd.R_drew)); exact Kd.R_mono HO_5.out (fun _ hk => hk.2)⟩, ⟨by (with_reducible repeat (first | apply Kd.R_alloc | apply Kd.R_drewN | apply Kd.R_drew)); exact HO629.out⟩, ⟨by repeat (first | (with_reducible first | exact HB.out | apply below_alloc | apply pw_below_drewN | apply below_drew1) | exact HB.out)⟩⟩
      rw [if_neg c41] at H
      have c41b0 : decide (x9_2 < (x5_1.length : Int)) = false := decide_eq_false c41
      clear c41
      have HC48 := Aside0.mk H
      clear H
      obtain ⟨Ao49, co49, eo49⟩ := Kd.R_slice HO_5.out
      subst eo49
      go_upto_region 15 with (fail)
      go_cut [81] (fun v81 wc => ∃ (kq : Nat) (x81_47 : Bool), v81 = .bool x81_47 ∧ Aside0 (withylaw17_LevelLonger.j2 kq x5_1 x8_2 x81_47 = some r) ∧ Aside0 (kq ≤ k2) ∧ Aside0 (Kd.R Kd.string 9 wc w.heap.size (fun k_ => some k_ ≠ (u8 : Value).ownBlock) (.slice Ao49 x5_1.length co49) x5_1) ∧ Aside0 (Kd.R Kd.string 9 wc w.heap.size (fun k_ => some k_ ≠ ((.slice Ao49 x5_1.length co49) : Value).ownBlock) u8 x8_2) ∧ Aside0 (Below w.heap.size w wc))
      case first =>
       have H := HC48.out
       clear HC48
       replace H := bM H
       obtain ⟨t630, A500, H⟩ := H
       replace H : (if t630 = true then ((level_Right.f k2 x8_2 128).bind fun t631 => (withylaw17_LevelLonger.j2 k2 x5_1 x8_2 (!t631))) else (withylaw17_LevelLonger.j2 k2 x5_1 x8_2 true)) = some r := H
       have A50 := Aside0.mk A500
       clear A500
       by_cases c51 : t630 = true
       rotate_left
       ·replace c51 := Bool.eq_false_iff.mpr c51
        subst c51
        have H1 : (withylaw17_LevelLonger.j2 k2 x5_1 x8_2 true) = some r := by rw [if_neg (show ¬ (false = true) by decide)] at H; exact H
        clear H
        have H := H1
        clear H1
        have H' := Aside0.mk H
        clear H
        go_wp2_with (first | ((with_reducible refine gate_callee (f := 10) rfl ?_); refine goesL_ (some 75) rfl rfl Try.func10 (by kernel_rfl) rfl #[.slice Ao49 x5_1.length co49, .int .i64 128] rfl aO ?_; (with_reducible refine (level_Right.calls k2 _ _ x5_1 128 false _ ?side1 ?side2 A50.out).mono ?_); (case side1 => repeat (first | exact (Kd.R_reads' HO_5.out).2.2 | (with_reducible refine Kd.C_alloc ?_ _) | (with_reducible refine Kd.C_drewN ?_ _) | (with_reducible refine Kd.C_drew ?_))); (case side2 => exact (Kd.R_reads' HO_5.out).2.1); rintro e w56 ⟨rfl, hb⟩; refine ⟨_, rfl, ?_⟩; replace HO_5 := as_ (Kd.R_below (by (with_reducible repeat (first | apply Kd.R_alloc | apply Kd.R_drewN | apply Kd.R_drew)); exact HO_5.out) hb); replace HO_8 := as_ (Kd.R_below (by (with_reducible repeat (first | apply Kd.R_alloc | apply Kd.R_drewN | apply Kd.R_drew)); exact HO_8.out) hb); replace HB := as_ (below_step bA hb); (try clear hb); (try clear hb2); (try clear hk); (try clear hi)))
        go_meet
        case rel => exact ⟨_, (true), (by first | rfl | (simp; done) | (simp [*]; done)), H', ⟨by have := HK1.out; have := HK2.out; first | omega | exact Nat.le_refl _⟩, ⟨by (with_reducible repeat (first | apply Kd.R_alloc | apply Kd.R_drewN | apply Kd.R_drew)); exact HO_5.out⟩, ⟨by (with_reducible repeat (first | apply Kd.R_alloc | apply Kd.R_drewN | apply Kd.R_drew)); exact HO_8.out⟩, ⟨by repeat (first | (with_reducible first | exact HB.out | apply below_alloc | apply pw_below_drewN | apply below_drew1) | exact HB.out)⟩⟩
       subst c51
       have H1 : ((level_Right.f k2 x8_2 128).bind fun t631 => (withylaw17_LevelLonger.j2 k2 x5_1 x8_2 (!t631))) = some r := by rw [if_pos rfl] at H; exact H
       clear H
       have H := H1
       clear H1
       replace H := bM H
       obtain ⟨t631, A520, H⟩ := H
       replace H : (withylaw17_LevelLonger.j2 k2 x5_1 x8_2 (!t631)) = some r := H
       have A52 := Aside0.mk A520
       clear A520
       have H' := Aside0.mk H
       clear H
       go_wp2_with (first | ((with_reducible refine gate_callee (f := 10) rfl ?_); refine goesL_ (some 75) rfl rfl Try.func10 (by kernel_rfl) rfl #[.slice Ao49 x5_1.length co49, .int .i64 128] rfl aO ?_; (with_reducible refine (level_Right.calls k2 _ _ x5_1 128 true _ ?side1 ?side2 A50.out).mono ?_); (case side1 => repeat (first | exact (Kd.R_reads' HO_5.out).2.2 | (with_reducible refine Kd.C_alloc ?_ _) | (with_reducible refine Kd.C_drewN ?_ _) | (with_reducible refine Kd.C_drew ?_))); (case side2 => exact (Kd.R_reads' HO_5.out).2.1); rintro e w53 ⟨rfl, hb⟩; refine ⟨_, rfl, ?_⟩; replace HO_5 := as_ (Kd.R_below (by (with_reducible repeat (first | apply Kd.R_alloc | apply Kd.R_drewN | apply Kd.R_drew)); exact HO_5.out) hb); replace HO_8 := as_ (Kd.R_below (by (with_reducible repeat (first | apply Kd.R_alloc | apply Kd.R_drewN | apply Kd.R_drew)); exact HO_8.out) hb); replace HB := as_ (below_step bA hb); (try clear hb); (try clear hb2); (try clear hk); (try clear hi); obtain ⟨Ao54, co54, eo54⟩ := Kd.R_slice HO_8.out; subst eo54) | (go_at_call 10; (with_reducible refine (level_Right.calls k2 _ _ x8_2 128 t631 _ ?side1 ?side2 A52.out).mono ?_); (case side1 => repeat (first | exact (Kd.R_reads' HO_8.out).2.2 | (with_reducible refine Kd.C_alloc ?_ _) | (with_reducible refine Kd.C_drewN ?_ _) | (with_reducible refine Kd.C_drew ?_))); (case side2 => exact (Kd.R_reads' HO_8.out).2.1); rintro e w55 ⟨rfl, hb⟩; replace HO_5 := as_ (Kd.R_below (by (with_reducible repeat (first | apply Kd.R_alloc | apply Kd.R_drewN | apply Kd.R_drew)); exact HO_5.out) hb); replace HO_8 := as_ (Kd.R_below (by (with_reducible repeat (first | apply Kd.R_alloc | apply Kd.R_drewN | apply Kd.R_drew)); exact HO_8.out) hb); replace HB := as_ (below_step bA hb); (try clear hb); (try clear hb2); (try clear hk); (try clear hi)))
       go_meet
       case rel => exact ⟨_, (!t631), (by first | rfl | (simp; done) | (simp [*]; done)), H', ⟨by have := HK1.out; have := HK2.out; first | omega | exact Nat.le_refl _⟩, ⟨by (with_reducible repeat (first | apply Kd.R_alloc | apply Kd.R_drewN | apply Kd.R_drew)); exact HO_5.out⟩, ⟨by (with_reducible repeat (first | apply Kd.R_alloc | apply Kd.R_drewN | apply Kd.R_drew)); exact HO_8.out⟩, ⟨by repeat (first | (with_reducible first | exact HB.out | apply below_alloc | apply pw_below_drewN | apply below_drew1) | exact HB.out)⟩⟩
      case rest =>
       clear HC48
       try clear c1
       try clear c2
       try clear p2
       try clear c3
       try clear c4
       try clear c5
       try clear p6
       try clear q6
       try clear hx6
       try clear c10
       try clear c11
       try clear c11b0
       try clear c12
       try clear c14
       try clear c15
       try clear c17
       try clear c17b0
       try clear c17b1
       try clear c20
       try clear c20b0
       try clear c20b1
       try clear c20b2
       try clear c21
       try clear c27
       try clear c27b0
       try clear c28
       try clear c28b0
       try clear c29
       try clear c29b0
       try clear c30
       try clear c41
       try clear c41b0
       try clear c42
       try clear c42b0
       try clear c43
       try clear c43b0
       try clear c43b1
       try clear c43b2
       try clear c45
       try clear c51
       try clear hx614_0
       try clear hx615_0
       try clear hx619_0
       try clear hx626_0
       try clear p2
       try clear p6
       try clear p614
       try clear p615
       try clear p619
       try clear p626
       try clear q6
       try clear q614
       try clear q615
       try clear q619
       try clear q626
       obtain ⟨kq, x81_47, rfl, HA, HJ47, HO_5, HO_8, HB⟩ := hcut
       cases kq with
       | zero => exact absurd HA.out (by simp [withylaw17_LevelLonger.j2])
       | succ kj47 =>
        have H := HA.out
        clear HA
        simp only [withylaw17_LevelLonger.j2] at H
        by_cases c57 : x81_47 = true
        ·subst c57
         have H1 : (none) = some r := by rw [if_pos rfl] at H; exact H
         clear H
         have H := H1
         clear H1
         exact absurd H (by simp)
        replace c57 := Bool.eq_false_iff.mpr c57
        subst c57
        have H1 : ((level_Group.f kj47 x5_1 128).bind fun t632 => ((level_Group.f kj47 x8_2 128).bind fun t635 => (if (t632.length : Int) = 0 then (none) else (if (t635.length : Int) = 0 then (none) else (if 0 < (t635.length : Int) then (if 0 < (t632.length : Int) then (if (rd t635 0) ≤ (rd t632 0) then (if (t635.length : Int) ≥ (t632.length : Int) then (if (rd t635 0) ≥ (mn 2 (wrap64 ((x8_2.length : Int) + 1))) then ((withylaw17_fixed.f kj47).bind fun t641 => (some t641)) else (none)) else (none)) else (none)) else (none)) else (none)))))) = some r := by rw [if_neg (show ¬ (false = true) by decide)] at H; exact H
        clear H
        have H := H1
        clear H1
        replace H := bM H
        obtain ⟨t632, A580, H⟩ := H
        replace H : ((level_Group.f kj47 x8_2 128).bind fun t635 => (if (t632.length : Int) = 0 then (none) else (if (t635.length : Int) = 0 then (none) else (if 0 < (t635.length : Int) then (if 0 < (t632.length : Int) then (if (rd t635 0) ≤ (rd t632 0) then (if (t635.length : Int) ≥ (t632.length : Int) then (if (rd t635 0) ≥ (mn 2 (wrap64 ((x8_2.length : Int) + 1))) then ((withylaw17_fixed.f kj47).bind fun t641 => (some t641)) else (none)) else (none)) else (none)) else (none)) else (none))))) = some r := H
        have A58 := Aside0.mk A580
        clear A580
        replace H := bM H
        obtain ⟨t635, A590, H⟩ := H
        replace H : (if (t632.length : Int) = 0 then (none) else (if (t635.length : Int) = 0 then (none) else (if 0 < (t635.length : Int) then (if 0 < (t632.length : Int) then (if (rd t635 0) ≤ (rd t632 0) then (if (t635.length : Int) ≥ (t632.length : Int) then (if (rd t635 0) ≥ (mn 2 (wrap64 ((x8_2.length : Int) + 1))) then ((withylaw17_fixed.f kj47).bind fun t641 => (some t641)) else (none)) else (none)) else (none)) else (none)) else (none)))) = some r := H
        have A59 := Aside0.mk A590
        clear A590
        by_cases c60 : (t632.length : Int) = 0
        ·rw [if_pos c60] at H
         exact absurd H (by simp)
        rw [if_neg c60] at H
        have c60b0 : ((t632.length : Int) == 0) = false := beq_eq_false_iff_ne.mpr c60
        have c60b1 : ((t632.length : Int) != 0) = true := bne_iff_ne.mpr c60
        have c60b2 : ¬ (t632 = []) := fun h_ => c60 (by rw [h_]; rfl)
        by_cases c61 : (t635.length : Int) = 0
        ·rw [if_pos c61] at H
         exact absurd H (by simp)
        rw [if_neg c61] at H
        have c61b0 : ((t635.length : Int) == 0) = false := beq_eq_false_iff_ne.mpr c61
        have c61b1 : ((t635.length : Int) != 0) = true := bne_iff_ne.mpr c61
        have c61b2 : ¬ (t635 = []) := fun h_ => c61 (by rw [h_]; rfl)
        by_cases c62 : 0 < (t635.length : Int)
        rotate_left
        ·rw [if_neg c62] at H
         exact absurd H (by simp)
        rw [if_pos c62] at H
        have c62b0 : decide (0 < (t635.length : Int)) = true := decide_eq_true c62
        have c62b1 : decide (0 < t635.length) = true := decide_eq_true (by omega)
        clear c62
        by_cases c63 : 0 < (t632.length : Int)
        rotate_left
        ·rw [if_neg c63] at H
         exact absurd H (by simp)
        rw [if_pos c63] at H
        have c63b0 : decide (0 < (t632.length : Int)) = true := decide_eq_true c63
        have c63b1 : decide (0 < t632.length) = true := decide_eq_true (by omega)
        clear c63
        by_cases c64 : (rd t635 0) ≤ (rd t632 0)
        rotate_left
        ·rw [if_neg c64] at H
         exact absurd H (by simp)
        rw [if_pos c64] at H
        have c64b0 : decide ((rd t635 0) ≤ (rd t632 0)) = true := decide_eq_true c64
        clear c64
        by_cases c65 : (t635.length : Int) ≥ (t632.length : Int)
        rotate_left
        ·rw [if_neg c65] at H
         exact absurd H (by simp)
        rw [if_pos c65] at H
        have c65b0 : decide ((t632.length : Int) ≤ (t635.length : Int)) = true := decide_eq_true c65
        have c65b1 : decide (t632.length ≤ t635.length) = true := decide_eq_true (Int.ofNat_le.mp c65)
        clear c65
        obtain ⟨ji66, hji66⟩ : ∃ j_ : Int, (mn 2 (wrap64 ((x8_2.length : Int) + 1))) = j_ := ⟨_, rfl⟩
        replace H : (if (rd t635 0) ≥ (ji66) then ((withylaw17_fixed.f kj47).bind fun t641 => (some t641)) else (none)) = some r := by first | (rw [hji66] at H; exact H) | (simp only [hji66] at H ⊢; exact H)
        (try rw [hji66] at A58)
        (try rw [hji66] at A59)
        have hji66_ : (if (wrap64 ((x8_2.length : Int) + 1)) < 2 then (wrap64 ((x8_2.length : Int) + 1)) else 2) = ji66 := hji66
        by_cases c67 : (rd t635 0) ≥ (ji66)
        rotate_left
        ·rw [if_neg c67] at H
         exact absurd H (by simp)
        rw [if_pos c67] at H
        have c67b0 : decide ((ji66) ≤ (rd t635 0)) = true := decide_eq_true c67
        clear c67
        replace H := bM H
        obtain ⟨t641, A680, H⟩ := H
        replace H : (some t641) = some r := H
        have A68 := Aside0.mk A680
        clear A680
        obtain rfl := Option.some.inj H
        try go_wp2_with (first | ((with_reducible refine gate_callee (f := 16) rfl ?_); refine goesL_ (some 83) rfl rfl Try.func16 (by kernel_rfl) rfl #[.slice Ao49 x5_1.length co49, .int .i64 128] rfl aO ?_; (with_reducible refine (level_Group.calls kj47 _ _ x5_1 128 t632 _ ?side1 ?side2 A58.out).mono ?_); (case side1 => repeat (first | exact (Kd.R_reads' HO_5.out).2.2 | (with_reducible refine Kd.C_alloc ?_ _) | (with_reducible refine Kd.C_drewN ?_ _) | (with_reducible refine Kd.C_drew ?_))); (case side2 => exact (Kd.R_reads' HO_5.out).2.1); rintro e w69 ⟨v633, rfl, ho0, hb⟩; refine ⟨_, rfl, ?_⟩; have HO634 := as_ (Kd.R_lower ho0 (below_size bA)); replace HO_5 := as_ (Kd.R_below (by (with_reducible repeat (first | apply Kd.R_alloc | apply Kd.R_drewN | apply Kd.R_drew)); exact HO_5.out) hb); replace HO_8 := as_ (Kd.R_below (by (with_reducible repeat (first | apply Kd.R_alloc | apply Kd.R_drewN | apply Kd.R_drew)); exact HO_8.out) hb); replace HB := as_ (below_step bA hb); (try clear hb); (try clear hb2); (try clear hk); (try clear hi); (try clear ho0); obtain ⟨Ao70, co70, eo70⟩ := Kd.R_slice HO_8.out; subst eo70) | ((with_reducible refine gate_callee (f := 16) rfl ?_); refine goesL_ (some 85) rfl rfl Try.func16 (by kernel_rfl) rfl #[.slice Ao70 x8_2.length co70, .int .i64 128] rfl aO ?_; (with_reducible refine (level_Group.calls kj47 _ _ x8_2 128 t635 _ ?side1 ?side2 A59.out).mono ?_); (case side1 => repeat (first | exact (Kd.R_reads' HO_8.out).2.2 | (with_reducible refine Kd.C_alloc ?_ _) | (with_reducible refine Kd.C_drewN ?_ _) | (with_reducible refine Kd.C_drew ?_))); (case side2 => exact (Kd.R_reads' HO_8.out).2.1); rintro e w71 ⟨v636, rfl, ho0, hb⟩; refine ⟨_, rfl, ?_⟩; have HO637 := as_ (Kd.R_lower (Kd.R_new' ho0 (Kd.R_lt (by (with_reducible repeat (first | apply Kd.R_alloc | apply Kd.R_drewN | apply Kd.R_drew)); exact HO634.out))) (below_size bA)); replace HO_5 := as_ (Kd.R_below (by (with_reducible repeat (first | apply Kd.R_alloc | apply Kd.R_drewN | apply Kd.R_drew)); exact HO_5.out) hb); replace HO_8 := as_ (Kd.R_below (by (with_reducible repeat (first | apply Kd.R_alloc | apply Kd.R_drewN | apply Kd.R_drew)); exact HO_8.out) hb); replace HO634 := as_ (Kd.R_elder' (by (with_reducible repeat (first | apply Kd.R_alloc | apply Kd.R_drewN | apply Kd.R_drew)); exact HO634.out) (Kd.R_base ho0) hb); replace HB := as_ (below_step bA hb); (try clear hb); (try clear hb2); (try clear hk); (try clear hi); (try clear ho0); obtain ⟨Ao72, co72, eo72⟩ := Kd.R_slice HO634.out; subst eo72; obtain ⟨Ao73, co73, eo73⟩ := Kd.R_slice HO637.out; subst eo73))
        replace HO_5 := as_ (Kd.R_drew HO_5.out)
        replace HO_8 := as_ (Kd.R_drew HO_8.out)
        replace HO634 := as_ (Kd.R_drew HO634.out)
        replace HO637 := as_ (Kd.R_drew HO637.out)
        replace HB := as_ (below_drew1 HB.out)
        have p638 : 0 ≤ (0 : Int) := (by omega)
        have q638 : 0 < (t635.length : Int) := of_decide_eq_true aM
        obtain ⟨ad638, e638, hx638_0⟩ := Kd.at_int (Kd.R_reads' HO637.out).2.2 0 p638 q638
        cases e638
        have qi638 : (0 < t635.length) = True := eq_true (by omega)
        (try rw [show ((0 : Int)).toNat = 0 from rfl] at hx638_0)
        (try rw [Addr.add_zero'] at hx638_0)
        replace p638 := eq_true p638
        replace q638 := eq_true q638
        have p639 : 0 ≤ (0 : Int) := (by omega)
        have q639 : 0 < (t632.length : Int) := of_decide_eq_true aM
        obtain ⟨ad639, e639, hx639_0⟩ := Kd.at_int (Kd.R_reads' HO634.out).2.2 0 p639 q639
        cases e639
        have qi639 : (0 < t632.length) = True := eq_true (by omega)
        (try rw [show ((0 : Int)).toNat = 0 from rfl] at hx639_0)
        (try rw [Addr.add_zero'] at hx639_0)
        replace p639 := eq_true p639
        replace q639 := eq_true q639
        have p640 : 0 ≤ (0 : Int) := (by omega)
        have q640 : 0 < (t635.length : Int) := of_decide_eq_true aM
        obtain ⟨ad640, e640, hx640_0⟩ := Kd.at_int (Kd.R_reads' HO637.out).2.2 0 p640 q640
        obtain rfl : ad638 = ad640 := (by injection e640)
        have qi640 : (0 < t635.length) = True := eq_true (by omega)
        (try rw [show ((0 : Int)).toNat = 0 from rfl] at hx640_0)
        (try rw [Addr.add_zero'] at hx640_0)
        replace p640 := eq_true p640
        replace q640 := eq_true q640
        refine start_ (n := 28) (S := fun w' => w'.cell? ad638 = some (.int .i64 (rd t635 0)) ∧ w'.cell? ad639 = some (.int .i64 (rd t632 0)) ∧ w'.cell? ad638 = some (.int .i64 (rd t635 0))) (ds := []) #[ff, ff, ff, ff, ff, ff, ff, ff, ff, ff, ff, ff, ff, ff, ff, ff, ff, ff, ff, ff, ff, ff, ff, ff, ff, ff, ff, ff] (by kernel_rfl) rfl rfl ⟨hx638_0, hx639_0, hx640_0⟩ (fun hHeld => ?_); refine with_tabW withylaw17_LevelLonger.tab20 withylaw17_LevelLonger.bits20 (fun HT_ HW_ => ?_)
        generalize w71.drew = w74 at HO_5 HO_8 HO634 HO637 HB hx638_0 hx639_0 hx640_0 hHeld ⊢
        refine pure_ (i := 0) (N := some 94) (v := ?_) (a' := ?_) #[tt, ff, ff, ff, ff, ff, ff, ff, ff, ff, ff, ff, ff, ff, ff, ff, ff, ff, ff, ff, ff, ff, ff, ff, ff, ff, ff, ff] rfl rfl (any_of HT_.out (by kernel_rfl)) (fun _ _ _ h => h) (Or.inl ⟨by rfl, ?_⟩) ?_ ?_
        rotate_left
        ·intro w'
         go_simp
         with_reducible rfl
        rotate_left
        ·exact aP
        refine pure_ (i := 1) (N := some 95) (v := ?_) (a' := ?_) #[tt, tt, ff, ff, ff, ff, ff, ff, ff, ff, ff, ff, ff, ff, ff, ff, ff, ff, ff, ff, ff, ff, ff, ff, ff, ff, ff, ff] rfl rfl (any_of HT_.out (by kernel_rfl)) (fun _ _ _ h => h) (Or.inl ⟨by rfl, ?_⟩) ?_ ?_
        rotate_left
        ·intro w'
         go_simp
         with_reducible rfl
        rotate_left
        ·exact aP
        refine pure_ (i := 3) (N := some 97) (v := ?_) (a' := ?_) #[tt, tt, ff, tt, ff, ff, ff, ff, ff, ff, ff, ff, ff, ff, ff, ff, ff, ff, ff, ff, ff, ff, ff, ff, ff, ff, ff, ff] rfl rfl (any_of HT_.out (by kernel_rfl)) (fun _ _ _ h => h) (Or.inl ⟨by rfl, ?_⟩) ?_ ?_
        rotate_left
        ·intro w'
         go_simp
         with_reducible rfl
        rotate_left
        ·exact aP
        refine pure_ (i := 4) (N := some 98) (v := ?_) (a' := ?_) #[tt, tt, ff, tt, tt, ff, ff, ff, ff, ff, ff, ff, ff, ff, ff, ff, ff, ff, ff, ff, ff, ff, ff, ff, ff, ff, ff, ff] rfl rfl (any_of HT_.out (by kernel_rfl)) (fun _ _ _ h => h) (Or.inl ⟨by rfl, ?_⟩) ?_ ?_
        rotate_left
        ·intro w'
         go_simp
         with_reducible rfl
        rotate_left
        ·exact aP
        refine take_ (i := 2) (N := some 96) (v := ?_) (a' := ?_) #[tt, tt, tt, tt, tt, ff, ff, ff, ff, ff, ff, ff, ff, ff, ff, ff, ff, ff, ff, ff, ff, ff, ff, ff, ff, ff, ff, ff] rfl rfl (take_ofW HT_.out HW_.out (by kernel_rfl)) (fun _ _ _ h => h) (Or.inl ⟨by rfl, ?_⟩) hHeld ?_ ?_
        rotate_left
        ·rintro w' ⟨s0, s1, s2⟩
         go_simp
         with_reducible rfl
        rotate_left
        ·exact aP
        refine take_ (i := 5) (N := some 99) (v := ?_) (a' := ?_) #[tt, tt, tt, tt, tt, tt, ff, ff, ff, ff, ff, ff, ff, ff, ff, ff, ff, ff, ff, ff, ff, ff, ff, ff, ff, ff, ff, ff] rfl rfl (take_ofW HT_.out HW_.out (by kernel_rfl)) (fun _ _ _ h => h) (Or.inl ⟨by rfl, ?_⟩) hHeld ?_ ?_
        rotate_left
        ·rintro w' ⟨s0, s1, s2⟩
         go_simp
         with_reducible rfl
        rotate_left
        ·exact aP
        refine pure_ (i := 6) (N := some 100) (v := ?_) (a' := ?_) #[tt, tt, tt, tt, tt, tt, tt, ff, ff, ff, ff, ff, ff, ff, ff, ff, ff, ff, ff, ff, ff, ff, ff, ff, ff, ff, ff, ff] rfl rfl (any_of HT_.out (by kernel_rfl)) (fun _ _ _ h => h) (Or.inl ⟨by rfl, ?_⟩) ?_ ?_
        rotate_left
        ·intro w'
         go_simp
         with_reducible rfl
        rotate_left
        ·exact aP
        refine pure_ (i := 7) (N := some 101) (v := ?_) (a' := ?_) #[tt, tt, tt, tt, tt, tt, tt, tt, ff, ff, ff, ff, ff, ff, ff, ff, ff, ff, ff, ff, ff, ff, ff, ff, ff, ff, ff, ff] rfl rfl (any_of HT_.out (by kernel_rfl)) (fun _ _ _ h => h) (Or.inl ⟨by rfl, ?_⟩) ?_ ?_
        rotate_left
        ·intro w'
         go_simp
         with_reducible rfl
        rotate_left
        ·exact aP
        refine pure_ (i := 8) (N := some 102) (v := ?_) (a' := ?_) #[tt, tt, tt, tt, tt, tt, tt, tt, tt, ff, ff, ff, ff, ff, ff, ff, ff, ff, ff, ff, ff, ff, ff, ff, ff, ff, ff, ff] rfl rfl (any_of HT_.out (by kernel_rfl)) (fun _ _ _ h => h) (Or.inl ⟨by rfl, ?_⟩) ?_ ?_
        rotate_left
        ·intro w'
         go_simp
         with_reducible rfl
        rotate_left
        ·exact aP
        refine pure_ (i := 9) (N := some 103) (v := ?_) (a' := ?_) #[tt, tt, tt, tt, tt, tt, tt, tt, tt, tt, ff, ff, ff, ff, ff, ff, ff, ff, ff, ff, ff, ff, ff, ff, ff, ff, ff, ff] rfl rfl (any_of HT_.out (by kernel_rfl)) (fun _ _ _ h => h) (Or.inl ⟨by rfl, ?_⟩) ?_ ?_
        rotate_left
        ·intro w'
         go_simp
         with_reducible rfl
        rotate_left
        ·exact aP
        refine pure_ (i := 10) (N := some 104) (v := ?_) (a' := ?_) #[tt, tt, tt, tt, tt, tt, tt, tt, tt, tt, tt, ff, ff, ff, ff, ff, ff, ff, ff, ff, ff, ff, ff, ff, ff, ff, ff, ff] rfl rfl (any_of HT_.out (by kernel_rfl)) (fun _ _ _ h => h) (Or.inl ⟨by rfl, ?_⟩) ?_ ?_
        rotate_left
        ·intro w'
         go_simp
         with_reducible rfl
        rotate_left
        ·exact aP
        refine pure_ (i := 11) (N := some 105) (v := ?_) (a' := ?_) #[tt, tt, tt, tt, tt, tt, tt, tt, tt, tt, tt, tt, ff, ff, ff, ff, ff, ff, ff, ff, ff, ff, ff, ff, ff, ff, ff, ff] rfl rfl (any_of HT_.out (by kernel_rfl)) (fun _ _ _ h => h) (Or.inl ⟨by rfl, ?_⟩) ?_ ?_
        rotate_left
        ·intro w'
         go_simp
         with_reducible rfl
        rotate_left
        ·exact aP
        refine pure_ (i := 12) (N := some 106) (v := ?_) (a' := ?_) #[tt, tt, tt, tt, tt, tt, tt, tt, tt, tt, tt, tt, tt, ff, ff, ff, ff, ff, ff, ff, ff, ff, ff, ff, ff, ff, ff, ff] rfl rfl (any_of HT_.out (by kernel_rfl)) (fun _ _ _ h => h) (Or.inl ⟨by rfl, ?_⟩) ?_ ?_
        rotate_left
        ·intro w'
         go_simp
         with_reducible rfl
        rotate_left
        ·exact aP
        refine pure_ (i := 13) (N := some 107) (v := ?_) (a' := ?_) #[tt, tt, tt, tt, tt, tt, tt, tt, tt, tt, tt, tt, tt, tt, ff, ff, ff, ff, ff, ff, ff, ff, ff, ff, ff, ff, ff, ff] rfl rfl (any_of HT_.out (by kernel_rfl)) (fun _ _ _ h => h) (Or.inl ⟨by rfl, ?_⟩) ?_ ?_
        rotate_left
        ·intro w'
         go_simp
         with_reducible rfl
        rotate_left
        ·exact aP
        refine pure_ (i := 14) (N := some 108) (v := ?_) (a' := ?_) #[tt, tt, tt, tt, tt, tt, tt, tt, tt, tt, tt, tt, tt, tt, tt, ff, ff, ff, ff, ff, ff, ff, ff, ff, ff, ff, ff, ff] rfl rfl (any_of HT_.out (by kernel_rfl)) (fun _ _ _ h => h) (Or.inl ⟨by rfl, ?_⟩) ?_ ?_
        rotate_left
        ·intro w'
         go_simp
         with_reducible rfl
        rotate_left
        ·exact aP
        refine pure_ (i := 15) (N := some 109) (v := ?_) (a' := ?_) #[tt, tt, tt, tt, tt, tt, tt, tt, tt, tt, tt, tt, tt, tt, tt, tt, ff, ff, ff, ff, ff, ff, ff, ff, ff, ff, ff, ff] rfl rfl (any_of HT_.out (by kernel_rfl)) (fun _ _ _ h => h) (Or.inl ⟨by rfl, ?_⟩) ?_ ?_
        rotate_left
        ·intro w'
         go_simp
         with_reducible rfl
        rotate_left
        ·exact aP
        refine pure_ (i := 16) (N := some 110) (v := ?_) (a' := ?_) #[tt, tt, tt, tt, tt, tt, tt, tt, tt, tt, tt, tt, tt, tt, tt, tt, tt, ff, ff, ff, ff, ff, ff, ff, ff, ff, ff, ff] rfl rfl (any_of HT_.out (by kernel_rfl)) (fun _ _ _ h => h) (Or.inl ⟨by rfl, ?_⟩) ?_ ?_
        rotate_left
        ·intro w'
         go_simp
         with_reducible rfl
        rotate_left
        ·exact aP
        refine pure_ (i := 18) (N := some 112) (v := ?_) (a' := ?_) #[tt, tt, tt, tt, tt, tt, tt, tt, tt, tt, tt, tt, tt, tt, tt, tt, tt, ff, tt, ff, ff, ff, ff, ff, ff, ff, ff, ff] rfl rfl (any_of HT_.out (by kernel_rfl)) (fun _ _ _ h => h) (Or.inl ⟨by rfl, ?_⟩) ?_ ?_
        rotate_left
        ·intro w'
         go_simp
         with_reducible rfl
        rotate_left
        ·exact aP
        refine pure_ (i := 19) (N := some 113) (v := ?_) (a' := ?_) #[tt, tt, tt, tt, tt, tt, tt, tt, tt, tt, tt, tt, tt, tt, tt, tt, tt, ff, tt, tt, ff, ff, ff, ff, ff, ff, ff, ff] rfl rfl (any_of HT_.out (by kernel_rfl)) (fun _ _ _ h => h) (Or.inl ⟨by rfl, ?_⟩) ?_ ?_
        rotate_left
        ·intro w'
         go_simp
         with_reducible rfl
        rotate_left
        ·exact aP
        refine pure_ (i := 20) (N := some 114) (v := ?_) (a' := ?_) #[tt, tt, tt, tt, tt, tt, tt, tt, tt, tt, tt, tt, tt, tt, tt, tt, tt, ff, tt, tt, tt, ff, ff, ff, ff, ff, ff, ff] rfl rfl (any_of HT_.out (by kernel_rfl)) (fun _ _ _ h => h) (Or.inl ⟨by rfl, ?_⟩) ?_ ?_
        rotate_left
        ·intro w'
         go_simp
         with_reducible rfl
        rotate_left
        ·exact aP
        refine pure_ (i := 21) (N := some 115) (v := ?_) (a' := ?_) #[tt, tt, tt, tt, tt, tt, tt, tt, tt, tt, tt, tt, tt, tt, tt, tt, tt, ff, tt, tt, tt, tt, ff, ff, ff, ff, ff, ff] rfl rfl (any_of HT_.out (by kernel_rfl)) (fun _ _ _ h => h) (Or.inl ⟨by rfl, ?_⟩) ?_ ?_
        rotate_left
        ·intro w'
         go_simp
         with_reducible rfl
        rotate_left
        ·exact aP
        refine take_ (i := 17) (N := some 111) (v := ?_) (a' := ?_) #[tt, tt, tt, tt, tt, tt, tt, tt, tt, tt, tt, tt, tt, tt, tt, tt, tt, tt, tt, tt, tt, tt, ff, ff, ff, ff, ff, ff] rfl rfl (take_ofW HT_.out HW_.out (by kernel_rfl)) (fun _ _ _ h => h) (Or.inl ⟨by rfl, ?_⟩) hHeld ?_ ?_
        rotate_left
        ·rintro w' ⟨s0, s1, s2⟩
         go_simp
         with_reducible rfl
        rotate_left
        ·exact aP
        refine pure_ (i := 22) (N := some 116) (v := ?_) (a' := ?_) #[tt, tt, tt, tt, tt, tt, tt, tt, tt, tt, tt, tt, tt, tt, tt, tt, tt, tt, tt, tt, tt, tt, tt, ff, ff, ff, ff, ff] rfl rfl (any_of HT_.out (by kernel_rfl)) (fun _ _ _ h => h) (Or.inl ⟨by rfl, ?_⟩) ?_ ?_
        rotate_left
        ·intro w'
         go_simp
         with_reducible rfl
        rotate_left
        ·exact aP
        refine pure_ (i := 23) (N := some 117) (v := ?_) (a' := ?_) #[tt, tt, tt, tt, tt, tt, tt, tt, tt, tt, tt, tt, tt, tt, tt, tt, tt, tt, tt, tt, tt, tt, tt, tt, ff, ff, ff, ff] rfl rfl (any_of HT_.out (by kernel_rfl)) (fun _ _ _ h => h) (Or.inl ⟨by rfl, ?_⟩) ?_ ?_
        rotate_left
        ·intro w'
         go_simp
         with_reducible rfl
        rotate_left
        ·exact aP
        refine pure_ (i := 24) (N := some 118) (v := ?_) (a' := ?_) #[tt, tt, tt, tt, tt, tt, tt, tt, tt, tt, tt, tt, tt, tt, tt, tt, tt, tt, tt, tt, tt, tt, tt, tt, tt, ff, ff, ff] rfl rfl (any_of HT_.out (by kernel_rfl)) (fun _ _ _ h => h) (Or.inl ⟨by rfl, ?_⟩) ?_ ?_
        rotate_left
        ·intro w'
         go_simp
         with_reducible rfl
        rotate_left
        ·exact aP
        refine one_ (i := 25) (N := some 119) #[tt, tt, tt, tt, tt, tt, tt, tt, tt, tt, tt, tt, tt, tt, tt, tt, tt, tt, tt, tt, tt, tt, tt, tt, tt, tt, ff, ff] rfl rfl (one_of HT_.out (by kernel_rfl)) (by decide) (fun K hK => ?_)
        refine goes_ Try.func26 (by kernel_rfl) rfl #[] (by rfl) rfl rfl aO ?_
        with_reducible refine (withylaw17_fixed.calls kj47  t641 _ A68.out).mono ?_
        rintro e w75 ⟨rfl, hb⟩
        have HS0_ := (hb.cell (World.block_lt_of_cell? _ _ (hHeld.1))).trans (hHeld.1)
        have HS1_ := (hb.cell (World.block_lt_of_cell? _ _ (hHeld.2.1))).trans (hHeld.2.1)
        have HS2_ := (hb.cell (World.block_lt_of_cell? _ _ (hHeld.2.2))).trans (hHeld.2.2)
        refine ⟨_, rfl, ?_⟩
        replace HO_5 := as_ (Kd.R_below (by (with_reducible repeat (first | apply Kd.R_alloc | apply Kd.R_drewN | apply Kd.R_drew)); exact HO_5.out) hb)
        replace HO_8 := as_ (Kd.R_below (by (with_reducible repeat (first | apply Kd.R_alloc | apply Kd.R_drewN | apply Kd.R_drew)); exact HO_8.out) hb)
        replace HO634 := as_ (Kd.R_below (by (with_reducible repeat (first | apply Kd.R_alloc | apply Kd.R_drewN | apply Kd.R_drew)); exact HO634.out) hb)
        replace HO637 := as_ (Kd.R_below (by (with_reducible repeat (first | apply Kd.R_alloc | apply Kd.R_drewN | apply Kd.R_drew)); exact HO637.out) hb)
        replace HB := as_ (below_step bA hb)
        (try clear hb)
        (try clear hb2)
        (try clear hk)
        (try clear hi)
        refine hK.out _ _ ⟨HS0_, HS1_, HS2_⟩ (fun hHeld => ?_)
        clear hK K
        refine norm_ (a' := ?_) ?_ ?_
        rotate_left
        ·show Act.put _ (some 119) _ = _
         simp only [Act.put, List.setIfInBounds_toArray, List.set_cons_zero, List.set_cons_succ, i64_w, i32_w]
         rfl
        refine pure_ (i := 26) (N := some 120) (v := ?_) (a' := ?_) #[tt, tt, tt, tt, tt, tt, tt, tt, tt, tt, tt, tt, tt, tt, tt, tt, tt, tt, tt, tt, tt, tt, tt, tt, tt, tt, tt, ff] rfl rfl (any_of HT_.out (by kernel_rfl)) (fun _ _ _ h => h) (Or.inl ⟨by rfl, ?_⟩) ?_ ?_
        rotate_left
        ·intro w'
         go_simp
         with_reducible rfl
        rotate_left
        ·exact aP
        refine pure_ (i := 27) (N := some 4) (v := ?_) (a' := ?_) #[tt, tt, tt, tt, tt, tt, tt, tt, tt, tt, tt, tt, tt, tt, tt, tt, tt, tt, tt, tt, tt, tt, tt, tt, tt, tt, tt, tt] rfl rfl (any_of HT_.out (by kernel_rfl)) (fun _ _ _ h => h) (Or.inl ⟨by rfl, ?_⟩) ?_ ?_
        rotate_left
        ·intro w'
         go_simp
         with_reducible rfl
        rotate_left
        ·exact aP
        refine done_ (done_of HT_.out (by kernel_rfl)) ?_
        try go_wp2
        go_ret
        exact ⟨by first | rfl | (simp [errW_none, errW_some] <;> rfl) | (simp only [← hji3, ← hjs6, ← hji66]; first | rfl | (simp [errW_none, errW_some] <;> rfl)) | (simp [*, errW_none, errW_some] <;> rfl), by repeat (first | (with_reducible first | exact HB.out | apply below_alloc | apply pw_below_drewN | apply below_drew1) | exact HB.out)⟩
   rw [if_pos c11] at H
   have c11b0 : decide (x6_1 < (t611.length : Int)) = true := decide_eq_true c11
   clear c11
   by_cases c12 : 0 ≤ x6_1
   rotate_left
   ·rw [if_neg c12] at H
    exact absurd H (by simp)
   rw [if_pos c12] at H
   have c12b0 : decide (0 ≤ x6_1) = true := decide_eq_true c12
   clear c12
   obtain ⟨ji13, hji13⟩ : ∃ j_ : Int, (mn ((rdOf ByteArray.empty t611 x6_1).size : Int) 6) = j_ := ⟨_, rfl⟩
   replace H : (if 0 ≤ (ji13) then (if (ji13) ≤ ((rdOf ByteArray.empty t611 x6_1).size : Int) then (if ((rdOf ByteArray.empty t611 x6_1).extract 0 ((ji13) : Int).toNat).toList = ([] : List UInt8) then (withylaw17_LevelLonger.l0 k1 t611 js6 x5_1 (wrap64 (x6_1 + 1))) else (if (x5_1.length : Int) = 0 then (if x5_1.length < 8796093022208 then (withylaw17_LevelLonger.l0 k1 t611 js6 (x5_1 ++ [(rdOf ByteArray.empty t611 x6_1).extract 0 ((ji13) : Int).toNat]) (wrap64 (x6_1 + 1))) else (none)) else (if 0 ≤ (wrap64 ((x5_1.length : Int) - 1)) then (if (wrap64 ((x5_1.length : Int) - 1)) < (x5_1.length : Int) then (if (Op.bytesLess ((rdOf ByteArray.empty x5_1 (wrap64 ((x5_1.length : Int) - 1))).toList) (((rdOf ByteArray.empty t611 x6_1).extract 0 ((ji13) : Int).toNat).toList)) = true then (if x5_1.length < 8796093022208 then (withylaw17_LevelLonger.l0 k1 t611 js6 (x5_1 ++ [(rdOf ByteArray.empty t611 x6_1).extract 0 ((ji13) : Int).toNat]) (wrap64 (x6_1 + 1))) else (none)) else (withylaw17_LevelLonger.l0 k1 t611 js6 x5_1 (wrap64 (x6_1 + 1)))) else (none)) else (none)))) else (none)) else (none)) = some r := by first | (rw [hji13] at H; exact H) | (simp only [hji13] at H ⊢; exact H)
   have hji13_ : (if 6 < ((rdOf ByteArray.empty t611 x6_1).size : Int) then 6 else ((rdOf ByteArray.empty t611 x6_1).size : Int)) = ji13 := hji13
   by_cases c14 : 0 ≤ (ji13)
   rotate_left
   ·rw [if_neg c14] at H
    exact absurd H (by simp)
   rw [if_pos c14] at H
   have c14b0 := eq_true c14
   have c14b1 : decide (0 ≤ (ji13)) = true := decide_eq_true c14
   clear c14
   by_cases c15 : (ji13) ≤ ((rdOf ByteArray.empty t611 x6_1).size : Int)
   rotate_left
   ·rw [if_neg c15] at H
    exact absurd H (by simp)
   rw [if_pos c15] at H
   have c15b0 := eq_true c15
   have c15b1 : decide ((ji13) ≤ ((rdOf ByteArray.empty t611 x6_1).size : Int)) = true := decide_eq_true c15
   clear c15
   obtain ⟨js16, hjs16⟩ : ∃ j_ : ByteArray, ((rdOf ByteArray.empty t611 x6_1).extract 0 ((ji13) : Int).toNat) = j_ := ⟨_, rfl⟩
   replace H : (if (js16).toList = ([] : List UInt8) then (withylaw17_LevelLonger.l0 k1 t611 js6 x5_1 (wrap64 (x6_1 + 1))) else (if (x5_1.length : Int) = 0 then (if x5_1.length < 8796093022208 then (withylaw17_LevelLonger.l0 k1 t611 js6 (x5_1 ++ [js16]) (wrap64 (x6_1 + 1))) else (none)) else (if 0 ≤ (wrap64 ((x5_1.length : Int) - 1)) then (if (wrap64 ((x5_1.length : Int) - 1)) < (x5_1.length : Int) then (if (Op.bytesLess ((rdOf ByteArray.empty x5_1 (wrap64 ((x5_1.length : Int) - 1))).toList) ((js16).toList)) = true then (if x5_1.length < 8796093022208 then (withylaw17_LevelLonger.l0 k1 t611 js6 (x5_1 ++ [js16]) (wrap64 (x6_1 + 1))) else (none)) else (withylaw17_LevelLonger.l0 k1 t611 js6 x5_1 (wrap64 (x6_1 + 1)))) else (none)) else (none)))) = some r := by first | (rw [hjs16] at H; exact H) | (simp only [hjs16] at H ⊢; exact H)
   by_cases c17 : (js16).toList = ([] : List UInt8)
   ·rw [if_pos c17] at H
    have c17b0 : ((js16).toList == ([] : List UInt8)) = true := beq_iff_eq.mpr c17
    have c17b1 : ((js16).toList != ([] : List UInt8)) = false := bne_eq_false_iff_eq.mpr c17
    clear c17
    have H' := Aside0.mk H
    clear H
    obtain ⟨Ao18, co18, eo18⟩ := Kd.R_slice HO_0.out
    subst eo18
    try go_wp2
    replace HO_0 := as_ (Kd.R_drew HO_0.out)
    replace HO_5 := as_ (Kd.R_drew HO_5.out)
    replace HB := as_ (below_drew1 HB.out)
    have p614 : 0 ≤ (x6_1 : Int) := of_decide_eq_true aM
    have q614 : x6_1 < (t611.length : Int) := of_decide_eq_true aM
    obtain ⟨ad614, e614, hx614_0⟩ := Kd.at_string (Kd.R_reads' HO_0.out).2.2 x6_1 p614 q614
    cases e614
    replace p614 := eq_true p614
    replace q614 := eq_true q614
    have p615 : 0 ≤ (x6_1 : Int) := of_decide_eq_true aM
    have q615 : x6_1 < (t611.length : Int) := of_decide_eq_true aM
    obtain ⟨ad615, e615, hx615_0⟩ := Kd.at_string (Kd.R_reads' HO_0.out).2.2 x6_1 p615 q615
    obtain rfl : ad614 = ad615 := (by injection e615)
    replace p615 := eq_true p615
    replace q615 := eq_true q615
    refine start_ (n := 12) (S := fun w' => w'.cell? (ad614.add (x6_1).toNat) = some (.string (rdOf ByteArray.empty t611 x6_1)) ∧ w'.cell? (ad614.add (x6_1).toNat) = some (.string (rdOf ByteArray.empty t611 x6_1))) (ds := []) #[ff, ff, ff, ff, ff, ff, ff, ff, ff, ff, ff, ff] (by kernel_rfl) rfl rfl ⟨hx614_0, hx615_0⟩ (fun hHeld => ?_); refine with_tabW withylaw17_LevelLonger.tab7 withylaw17_LevelLonger.bits7 (fun HT_ HW_ => ?_)
    generalize wr.drew = w19 at HO_0 HO_5 HB hx614_0 hx615_0 hHeld ⊢
    refine pure_ (i := 0) (N := some 26) (v := ?_) (a' := ?_) #[tt, ff, ff, ff, ff, ff, ff, ff, ff, ff, ff, ff] rfl rfl (any_of HT_.out (by kernel_rfl)) (fun _ _ _ h => h) (Or.inl ⟨by rfl, ?_⟩) ?_ ?_
    rotate_left
    ·intro w'
     go_simp
     with_reducible rfl
    rotate_left
    ·exact aP
    refine pure_ (i := 1) (N := some 27) (v := ?_) (a' := ?_) #[tt, tt, ff, ff, ff, ff, ff, ff, ff, ff, ff, ff] rfl rfl (any_of HT_.out (by kernel_rfl)) (fun _ _ _ h => h) (Or.inl ⟨by rfl, ?_⟩) ?_ ?_
    rotate_left
    ·intro w'
     go_simp
     with_reducible rfl
    rotate_left
    ·exact aP
    refine pure_ (i := 2) (N := some 28) (v := ?_) (a' := ?_) #[tt, tt, tt, ff, ff, ff, ff, ff, ff, ff, ff, ff] rfl rfl (any_of HT_.out (by kernel_rfl)) (fun _ _ _ h => h) (Or.inl ⟨by rfl, ?_⟩) ?_ ?_
    rotate_left
    ·intro w'
     go_simp
     with_reducible rfl
    rotate_left
    ·exact aP
    refine pure_ (i := 4) (N := some 30) (v := ?_) (a' := ?_) #[tt, tt, tt, ff, tt, ff, ff, ff, ff, ff, ff, ff] rfl rfl (any_of HT_.out (by kernel_rfl)) (fun _ _ _ h => h) (Or.inl ⟨by rfl, ?_⟩) ?_ ?_
    rotate_left
    ·intro w'
     go_simp
     with_reducible rfl
    rotate_left
    ·exact aP
    refine pure_ (i := 5) (N := some 31) (v := ?_) (a' := ?_) #[tt, tt, tt, ff, tt, tt, ff, ff, ff, ff, ff, ff] rfl rfl (any_of HT_.out (by kernel_rfl)) (fun _ _ _ h => h) (Or.inl ⟨by rfl, ?_⟩) ?_ ?_
    rotate_left
    ·intro w'
     go_simp
     with_reducible rfl
    rotate_left
    ·exact aP
    refine pure_ (i := 6) (N := some 32) (v := ?_) (a' := ?_) #[tt, tt, tt, ff, tt, tt, tt, ff, ff, ff, ff, ff] rfl rfl (any_of HT_.out (by kernel_rfl)) (fun _ _ _ h => h) (Or.inl ⟨by rfl, ?_⟩) ?_ ?_
    rotate_left
    ·intro w'
     go_simp
     with_reducible rfl
    rotate_left
    ·exact aP
    refine take_ (i := 3) (N := some 29) (v := ?_) (a' := ?_) #[tt, tt, tt, tt, tt, tt, tt, ff, ff, ff, ff, ff] rfl rfl (take_ofW HT_.out HW_.out (by kernel_rfl)) (fun _ _ _ h => h) (Or.inl ⟨by rfl, ?_⟩) hHeld ?_ ?_
    rotate_left
    ·rintro w' ⟨s0, s1⟩
     go_simp
     with_reducible rfl
    rotate_left
    ·exact aP
    refine take_ (i := 7) (N := some 33) (v := ?_) (a' := ?_) #[tt, tt, tt, tt, tt, tt, tt, tt, ff, ff, ff, ff] rfl rfl (take_ofW HT_.out HW_.out (by kernel_rfl)) (fun _ _ _ h => h) (Or.inl ⟨by rfl, ?_⟩) hHeld ?_ ?_
    rotate_left
    ·rintro w' ⟨s0, s1⟩
     go_simp
     with_reducible rfl
    rotate_left
    ·exact aP
    refine pure_ (i := 8) (N := some 34) (v := ?_) (a' := ?_) #[tt, tt, tt, tt, tt, tt, tt, tt, tt, ff, ff, ff] rfl rfl (any_of HT_.out (by kernel_rfl)) (fun _ _ _ h => h) (Or.inl ⟨by rfl, ?_⟩) ?_ ?_
    rotate_left
    ·intro w'
     go_simp
     with_reducible rfl
    rotate_left
    ·exact aP
    refine pure_ (i := 9) (N := some 35) (v := ?_) (a' := ?_) #[tt, tt, tt, tt, tt, tt, tt, tt, tt, tt, ff, ff] rfl rfl (any_of HT_.out (by kernel_rfl)) (fun _ _ _ h => h) (Or.inl ⟨by rfl, ?_⟩) ?_ ?_
    rotate_left
    ·intro w'
     go_simp
     with_reducible rfl
    rotate_left
    ·exact aP
    refine pure_ (i := 10) (N := some 36) (v := ?_) (a' := ?_) #[tt, tt, tt, tt, tt, tt, tt, tt, tt, tt, tt, ff] rfl rfl (any_of HT_.out (by kernel_rfl)) (fun _ _ _ h => h) (Or.inl ⟨by rfl, ?_⟩) ?_ ?_
    rotate_left
    ·intro w'
     go_simp
     with_reducible rfl
    rotate_left
    ·exact aP
    refine pure_ (i := 11) (N := some 7) (v := ?_) (a' := ?_) #[tt, tt, tt, tt, tt, tt, tt, tt, tt, tt, tt, tt] rfl rfl (any_of HT_.out (by kernel_rfl)) (fun _ _ _ h => h) (Or.inl ⟨by rfl, ?_⟩) ?_ ?_
    rotate_left
    ·intro w'
     go_simp
     with_reducible rfl
    rotate_left
    ·exact aP
    refine done_ (done_of HT_.out (by kernel_rfl)) ?_
    try go_wp2
    go_roundg k1
    case measure => have := HK1.out; omega
    case rel => exact ⟨(x5_1), (wrap64 (x6_1 + 1)), (by first | rfl | (simp; done) | (simp [*]; done)), H', ⟨by have := HK1.out; omega⟩, ⟨by (with_reducible repeat (first | apply Kd.R_alloc | apply Kd.R_drewN | apply Kd.R_drew)); exact HO_0.out⟩, ⟨by (with_reducible repeat (first | apply Kd.R_alloc | apply Kd.R_drewN | apply Kd.R_drew)); exact HO_5.out⟩, ⟨by repeat (first | (with_reducible first | exact HB.out | apply below_alloc | apply pw_below_drewN | apply below_drew1) | exact HB.out)⟩⟩
   rw [if_neg c17] at H
   have c17b0 : ((js16).toList == ([] : List UInt8)) = false := beq_eq_false_iff_ne.mpr c17
   have c17b1 : ((js16).toList != ([] : List UInt8)) = true := bne_iff_ne.mpr c17
   by_cases c20 : (x5_1.length : Int) = 0
   ·rw [if_pos c20] at H
    have c20b0 : ((x5_1.length : Int) == 0) = true := beq_iff_eq.mpr c20
    have c20b1 : ((x5_1.length : Int) != 0) = false := bne_eq_false_iff_eq.mpr c20
    clear c20
    by_cases c21 : x5_1.length < 8796093022208
    rotate_left
    ·rw [if_neg c21] at H
     exact absurd H (by simp)
    rw [if_pos c21] at H
    have LMc21 := Aside0.mk c21
    clear c21
    obtain ⟨y616, hy616⟩ : ∃ y_ : List ByteArray, y_ = (x5_1 ++ [js16]) := ⟨_, rfl⟩
    replace H : (withylaw17_LevelLonger.l0 k1 t611 js6 y616 (wrap64 (x6_1 + 1))) = some r := by first | (rw [hy616]; with_reducible exact H) | (have H2_ := (Option.bind_some _ _).symm.trans H; rw [hy616]; with_reducible exact H2_) | (have H2_ := (Option.bind_some _ _).symm.trans H; with_reducible exact H2_) | with_reducible exact H | (rw [hy616]; exact H) | exact H
    have Ny616 := Aside0.mk hy616
    clear hy616
    have H' := Aside0.mk H
    clear H
    obtain ⟨Ao22, co22, eo22⟩ := Kd.R_slice HO_0.out
    subst eo22
    try go_wp2
    replace HO_0 := as_ (Kd.R_drew HO_0.out)
    replace HO_5 := as_ (Kd.R_drew HO_5.out)
    replace HB := as_ (below_drew1 HB.out)
    have p614 : 0 ≤ (x6_1 : Int) := of_decide_eq_true aM
    have q614 : x6_1 < (t611.length : Int) := of_decide_eq_true aM
    obtain ⟨ad614, e614, hx614_0⟩ := Kd.at_string (Kd.R_reads' HO_0.out).2.2 x6_1 p614 q614
    cases e614
    replace p614 := eq_true p614
    replace q614 := eq_true q614
    have p615 : 0 ≤ (x6_1 : Int) := of_decide_eq_true aM
    have q615 : x6_1 < (t611.length : Int) := of_decide_eq_true aM
    obtain ⟨ad615, e615, hx615_0⟩ := Kd.at_string (Kd.R_reads' HO_0.out).2.2 x6_1 p615 q615
    obtain rfl : ad614 = ad615 := (by injection e615)
    replace p615 := eq_true p615
    replace q615 := eq_true q615
    refine start_ (n := 12) (S := fun w' => w'.cell? (ad614.add (x6_1).toNat) = some (.string (rdOf ByteArray.empty t611 x6_1)) ∧ w'.cell? (ad614.add (x6_1).toNat) = some (.string (rdOf ByteArray.empty t611 x6_1))) (ds := []) #[ff, ff, ff, ff, ff, ff, ff, ff, ff, ff, ff, ff] (by kernel_rfl) rfl rfl ⟨hx614_0, hx615_0⟩ (fun hHeld => ?_); refine with_tabW withylaw17_LevelLonger.tab7 withylaw17_LevelLonger.bits7 (fun HT_ HW_ => ?_)
    generalize wr.drew = w23 at HO_0 HO_5 HB hx614_0 hx615_0 hHeld ⊢
    refine pure_ (i := 0) (N := some 26) (v := ?_) (a' := ?_) #[tt, ff, ff, ff, ff, ff, ff, ff, ff, ff, ff, ff] rfl rfl (any_of HT_.out (by kernel_rfl)) (fun _ _ _ h => h) (Or.inl ⟨by rfl, ?_⟩) ?_ ?_
    rotate_left
    ·intro w'
     go_simp
     with_reducible rfl
    rotate_left
    ·exact aP
    refine pure_ (i := 1) (N := some 27) (v := ?_) (a' := ?_) #[tt, tt, ff, ff, ff, ff, ff, ff, ff, ff, ff, ff] rfl rfl (any_of HT_.out (by kernel_rfl)) (fun _ _ _ h => h) (Or.inl ⟨by rfl, ?_⟩) ?_ ?_
    rotate_left
    ·intro w'
     go_simp
     with_reducible rfl
    rotate_left
    ·exact aP
    refine pure_ (i := 2) (N := some 28) (v := ?_) (a' := ?_) #[tt, tt, tt, ff, ff, ff, ff, ff, ff, ff, ff, ff] rfl rfl (any_of HT_.out (by kernel_rfl)) (fun _ _ _ h => h) (Or.inl ⟨by rfl, ?_⟩) ?_ ?_
    rotate_left
    ·intro w'
     go_simp
     with_reducible rfl
    rotate_left
    ·exact aP
    refine pure_ (i := 4) (N := some 30) (v := ?_) (a' := ?_) #[tt, tt, tt, ff, tt, ff, ff, ff, ff, ff, ff, ff] rfl rfl (any_of HT_.out (by kernel_rfl)) (fun _ _ _ h => h) (Or.inl ⟨by rfl, ?_⟩) ?_ ?_
    rotate_left
    ·intro w'
     go_simp
     with_reducible rfl
    rotate_left
    ·exact aP
    refine pure_ (i := 5) (N := some 31) (v := ?_) (a' := ?_) #[tt, tt, tt, ff, tt, tt, ff, ff, ff, ff, ff, ff] rfl rfl (any_of HT_.out (by kernel_rfl)) (fun _ _ _ h => h) (Or.inl ⟨by rfl, ?_⟩) ?_ ?_
    rotate_left
    ·intro w'
     go_simp
     with_reducible rfl
    rotate_left
    ·exact aP
    refine pure_ (i := 6) (N := some 32) (v := ?_) (a' := ?_) #[tt, tt, tt, ff, tt, tt, tt, ff, ff, ff, ff, ff] rfl rfl (any_of HT_.out (by kernel_rfl)) (fun _ _ _ h => h) (Or.inl ⟨by rfl, ?_⟩) ?_ ?_
    rotate_left
    ·intro w'
     go_simp
     with_reducible rfl
    rotate_left
    ·exact aP
    refine take_ (i := 3) (N := some 29) (v := ?_) (a' := ?_) #[tt, tt, tt, tt, tt, tt, tt, ff, ff, ff, ff, ff] rfl rfl (take_ofW HT_.out HW_.out (by kernel_rfl)) (fun _ _ _ h => h) (Or.inl ⟨by rfl, ?_⟩) hHeld ?_ ?_
    rotate_left
    ·rintro w' ⟨s0, s1⟩
     go_simp
     with_reducible rfl
    rotate_left
    ·exact aP
    refine take_ (i := 7) (N := some 33) (v := ?_) (a' := ?_) #[tt, tt, tt, tt, tt, tt, tt, tt, ff, ff, ff, ff] rfl rfl (take_ofW HT_.out HW_.out (by kernel_rfl)) (fun _ _ _ h => h) (Or.inl ⟨by rfl, ?_⟩) hHeld ?_ ?_
    rotate_left
    ·rintro w' ⟨s0, s1⟩
     go_simp
     with_reducible rfl
    rotate_left
    ·exact aP
    refine pure_ (i := 8) (N := some 34) (v := ?_) (a' := ?_) #[tt, tt, tt, tt, tt, tt, tt, tt, tt, ff, ff, ff] rfl rfl (any_of HT_.out (by kernel_rfl)) (fun _ _ _ h => h) (Or.inl ⟨by rfl, ?_⟩) ?_ ?_
    rotate_left
    ·intro w'
     go_simp
     with_reducible rfl
    rotate_left
    ·exact aP
    refine pure_ (i := 9) (N := some 35) (v := ?_) (a' := ?_) #[tt, tt, tt, tt, tt, tt, tt, tt, tt, tt, ff, ff] rfl rfl (any_of HT_.out (by kernel_rfl)) (fun _ _ _ h => h) (Or.inl ⟨by rfl, ?_⟩) ?_ ?_
    rotate_left
    ·intro w'
     go_simp
     with_reducible rfl
    rotate_left
    ·exact aP
    refine pure_ (i := 10) (N := some 36) (v := ?_) (a' := ?_) #[tt, tt, tt, tt, tt, tt, tt, tt, tt, tt, tt, ff] rfl rfl (any_of HT_.out (by kernel_rfl)) (fun _ _ _ h => h) (Or.inl ⟨by rfl, ?_⟩) ?_ ?_
    rotate_left
    ·intro w'
     go_simp
     with_reducible rfl
    rotate_left
    ·exact aP
    refine pure_ (i := 11) (N := some 7) (v := ?_) (a' := ?_) #[tt, tt, tt, tt, tt, tt, tt, tt, tt, tt, tt, tt] rfl rfl (any_of HT_.out (by kernel_rfl)) (fun _ _ _ h => h) (Or.inl ⟨by rfl, ?_⟩) ?_ ?_
    rotate_left
    ·intro w'
     go_simp
     with_reducible rfl
    rotate_left
    ·exact aP
    refine done_ (done_of HT_.out (by kernel_rfl)) ?_
    obtain ⟨Ao24, co24, eo24⟩ := Kd.R_slice HO_5.out
    subst eo24
    try go_wp2_with (first | ((with_reducible refine gate_builtin (b := .append) (xs := #[.tmp 54, .tmp 56]) rfl ?_); (try (refine gate_guard (by rfl) ?_; dsimp only)); at_builtin; refine Kd.R_append Kd.string (w0 := w) w.heap.size rfl (.tmp 54) (.tmp 56) 22 9 (.string ⟨#[]⟩) 16 rfl Try.underlying22 info9 rfl (by decide) (by omega) (.slice Ao24 x5_1.length co24) x5_1 js16 [.string js16] (fun k_ => some k_ ≠ (.slice (some ad614) t611.length co22 : Value).ownBlock) (fun _ => False) rfl rfl ?aP (fun _ hk => hk.elim) ?aF ?aO ?aB ?aS ?aL ?_; (case aP => exact rfl); (case aB => exact bA); (case aF => exact (fun k_ hk => Kd.fresh' (Kd.R_lt (by (with_reducible repeat (first | apply Kd.R_alloc | apply Kd.R_drewN | apply Kd.R_drew)); exact HO_0.out)) k_ hk)); (case aO => exact (by (with_reducible repeat (first | apply Kd.R_alloc | apply Kd.R_drewN | apply Kd.R_drew)); exact HO_5.out)); (case aS => exact (below_size bA)); (case aL => have := LMc21.out; omega); intro v617 w25 ho hb hg hat; rw [← Ny616.out] at ho; have HO618 := as_ (ho); replace HO_0 := as_ (Kd.R_after (ok := (fun _ => True)) (by (with_reducible repeat (first | apply Kd.R_alloc | apply Kd.R_drewN | apply Kd.R_drew)); exact Kd.R_mono HO_0.out (fun _ hk => ⟨trivial, hk⟩)) hg hat); replace HB := as_ (hb); clear HO_5; clear ho hb hg hat))
    go_roundg k1
    case measure => have := HK1.out; omega
    case rel => exact ⟨(y616), (wrap64 (x6_1 + 1)), (by first | rfl | (simp; done) | (simp [*]; done)), H', ⟨by have := HK1.out; omega⟩, ⟨by (with_reducible repeat (first | apply Kd.R_alloc | apply Kd.R_drewN | apply Kd.R_drew)); exact Kd.R_mono HO_0.out (fun _ hk => hk.2)⟩, ⟨by (with_reducible repeat (first | apply Kd.R_alloc | apply Kd.R_drewN | apply Kd.R_drew)); exact HO618.out⟩, ⟨by repeat (first | (with_reducible first | exact HB.out | apply below_alloc | apply pw_below_drewN | apply below_drew1) | exact HB.out)⟩⟩
   rw [if_neg c20] at H
   have c20b0 : ((x5_1.length : Int) == 0) = false := beq_eq_false_iff_ne.mpr c20
   have c20b1 : ((x5_1.length : Int) != 0) = true := bne_iff_ne.mpr c20
   have c20b2 : ¬ (x5_1 = []) := fun h_ => c20 (by rw [h_]; rfl)
   obtain ⟨ji26, hji26⟩ : ∃ j_ : Int, (wrap64 ((x5_1.length : Int) - 1)) = j_ := ⟨_, rfl⟩
   replace H : (if 0 ≤ (ji26) then (if (ji26) < (x5_1.length : Int) then (if (Op.bytesLess ((rdOf ByteArray.empty x5_1 (ji26)).toList) ((js16).toList)) = true then (if x5_1.length < 8796093022208 then (withylaw17_LevelLonger.l0 k1 t611 js6 (x5_1 ++ [js16]) (wrap64 (x6_1 + 1))) else (none)) else (withylaw17_LevelLonger.l0 k1 t611 js6 x5_1 (wrap64 (x6_1 + 1)))) else (none)) else (none)) = some r := by first | (rw [hji26] at H; exact H) | (simp only [hji26] at H ⊢; exact H)
   have hji26w : (IntKind.i64.wrap ((x5_1.length : Int) - 1)) = ji26 := (i64_w _).trans hji26
   by_cases c27 : 0 ≤ (ji26)
   rotate_left
   ·rw [if_neg c27] at H
    exact absurd H (by simp)
   rw [if_pos c27] at H
   have c27b0 : decide (0 ≤ (ji26)) = true := decide_eq_true c27
   clear c27
   by_cases c28 : (ji26) < (x5_1.length : Int)
   rotate_left
   ·rw [if_neg c28] at H
    exact absurd H (by simp)
   rw [if_pos c28] at H
   have c28b0 : decide ((ji26) < (x5_1.length : Int)) = true := decide_eq_true c28
   clear c28
   by_cases c29 : (Op.bytesLess ((rdOf ByteArray.empty x5_1 (ji26)).toList) ((js16).toList)) = true
   rotate_left
   ·rw [if_neg c29] at H
    have c29b0 : (Op.bytesLess ((rdOf ByteArray.empty x5_1 (ji26)).toList) ((js16).toList)) = false := by simpa using c29
    clear c29
    have H' := Aside0.mk H
    clear H
    obtain ⟨Ao35, co35, eo35⟩ := Kd.R_slice HO_0.out
    subst eo35
    try go_wp2
    replace HO_0 := as_ (Kd.R_drew HO_0.out)
    replace HO_5 := as_ (Kd.R_drew HO_5.out)
    replace HB := as_ (below_drew1 HB.out)
    have p614 : 0 ≤ (x6_1 : Int) := of_decide_eq_true aM
    have q614 : x6_1 < (t611.length : Int) := of_decide_eq_true aM
    obtain ⟨ad614, e614, hx614_0⟩ := Kd.at_string (Kd.R_reads' HO_0.out).2.2 x6_1 p614 q614
    cases e614
    replace p614 := eq_true p614
    replace q614 := eq_true q614
    have p615 : 0 ≤ (x6_1 : Int) := of_decide_eq_true aM
    have q615 : x6_1 < (t611.length : Int) := of_decide_eq_true aM
    obtain ⟨ad615, e615, hx615_0⟩ := Kd.at_string (Kd.R_reads' HO_0.out).2.2 x6_1 p615 q615
    obtain rfl : ad614 = ad615 := (by injection e615)
    replace p615 := eq_true p615
    replace q615 := eq_true q615
    refine start_ (n := 12) (S := fun w' => w'.cell? (ad614.add (x6_1).toNat) = some (.string (rdOf ByteArray.empty t611 x6_1)) ∧ w'.cell? (ad614.add (x6_1).toNat) = some (.string (rdOf ByteArray.empty t611 x6_1))) (ds := []) #[ff, ff, ff, ff, ff, ff, ff, ff, ff, ff, ff, ff] (by kernel_rfl) rfl rfl ⟨hx614_0, hx615_0⟩ (fun hHeld => ?_); refine with_tabW withylaw17_LevelLonger.tab7 withylaw17_LevelLonger.bits7 (fun HT_ HW_ => ?_)
    generalize wr.drew = w36 at HO_0 HO_5 HB hx614_0 hx615_0 hHeld ⊢
    refine pure_ (i := 0) (N := some 26) (v := ?_) (a' := ?_) #[tt, ff, ff, ff, ff, ff, ff, ff, ff, ff, ff, ff] rfl rfl (any_of HT_.out (by kernel_rfl)) (fun _ _ _ h => h) (Or.inl ⟨by rfl, ?_⟩) ?_ ?_
    rotate_left
    ·intro w'
     go_simp
     with_reducible rfl
    rotate_left
    ·exact aP
    refine pure_ (i := 1) (N := some 27) (v := ?_) (a' := ?_) #[tt, tt, ff, ff, ff, ff, ff, ff, ff, ff, ff, ff] rfl rfl (any_of HT_.out (by kernel_rfl)) (fun _ _ _ h => h) (Or.inl ⟨by rfl, ?_⟩) ?_ ?_
    rotate_left
    ·intro w'
     go_simp
     with_reducible rfl
    rotate_left
    ·exact aP
    refine pure_ (i := 2) (N := some 28) (v := ?_) (a' := ?_) #[tt, tt, tt, ff, ff, ff, ff, ff, ff, ff, ff, ff] rfl rfl (any_of HT_.out (by kernel_rfl)) (fun _ _ _ h => h) (Or.inl ⟨by rfl, ?_⟩) ?_ ?_
    rotate_left
    ·intro w'
     go_simp
     with_reducible rfl
    rotate_left
    ·exact aP
    refine pure_ (i := 4) (N := some 30) (v := ?_) (a' := ?_) #[tt, tt, tt, ff, tt, ff, ff, ff, ff, ff, ff, ff] rfl rfl (any_of HT_.out (by kernel_rfl)) (fun _ _ _ h => h) (Or.inl ⟨by rfl, ?_⟩) ?_ ?_
    rotate_left
    ·intro w'
     go_simp
     with_reducible rfl
    rotate_left
    ·exact aP
    refine pure_ (i := 5) (N := some 31) (v := ?_) (a' := ?_) #[tt, tt, tt, ff, tt, tt, ff, ff, ff, ff, ff, ff] rfl rfl (any_of HT_.out (by kernel_rfl)) (fun _ _ _ h => h) (Or.inl ⟨by rfl, ?_⟩) ?_ ?_
    rotate_left
    ·intro w'
     go_simp
     with_reducible rfl
    rotate_left
    ·exact aP
    refine pure_ (i := 6) (N := some 32) (v := ?_) (a' := ?_) #[tt, tt, tt, ff, tt, tt, tt, ff, ff, ff, ff, ff] rfl rfl (any_of HT_.out (by kernel_rfl)) (fun _ _ _ h => h) (Or.inl ⟨by rfl, ?_⟩) ?_ ?_
    rotate_left
    ·intro w'
     go_simp
     with_reducible rfl
    rotate_left
    ·exact aP
    refine take_ (i := 3) (N := some 29) (v := ?_) (a' := ?_) #[tt, tt, tt, tt, tt, tt, tt, ff, ff, ff, ff, ff] rfl rfl (take_ofW HT_.out HW_.out (by kernel_rfl)) (fun _ _ _ h => h) (Or.inl ⟨by rfl, ?_⟩) hHeld ?_ ?_
    rotate_left
    ·rintro w' ⟨s0, s1⟩
     go_simp
     with_reducible rfl
    rotate_left
    ·exact aP
    refine take_ (i := 7) (N := some 33) (v := ?_) (a' := ?_) #[tt, tt, tt, tt, tt, tt, tt, tt, ff, ff, ff, ff] rfl rfl (take_ofW HT_.out HW_.out (by kernel_rfl)) (fun _ _ _ h => h) (Or.inl ⟨by rfl, ?_⟩) hHeld ?_ ?_
    rotate_left
    ·rintro w' ⟨s0, s1⟩
     go_simp
     with_reducible rfl
    rotate_left
    ·exact aP
    refine pure_ (i := 8) (N := some 34) (v := ?_) (a' := ?_) #[tt, tt, tt, tt, tt, tt, tt, tt, tt, ff, ff, ff] rfl rfl (any_of HT_.out (by kernel_rfl)) (fun _ _ _ h => h) (Or.inl ⟨by rfl, ?_⟩) ?_ ?_
    rotate_left
    ·intro w'
     go_simp
     with_reducible rfl
    rotate_left
    ·exact aP
    refine pure_ (i := 9) (N := some 35) (v := ?_) (a' := ?_) #[tt, tt, tt, tt, tt, tt, tt, tt, tt, tt, ff, ff] rfl rfl (any_of HT_.out (by kernel_rfl)) (fun _ _ _ h => h) (Or.inl ⟨by rfl, ?_⟩) ?_ ?_
    rotate_left
    ·intro w'
     go_simp
     with_reducible rfl
    rotate_left
    ·exact aP
    refine pure_ (i := 10) (N := some 36) (v := ?_) (a' := ?_) #[tt, tt, tt, tt, tt, tt, tt, tt, tt, tt, tt, ff] rfl rfl (any_of HT_.out (by kernel_rfl)) (fun _ _ _ h => h) (Or.inl ⟨by rfl, ?_⟩) ?_ ?_
    rotate_left
    ·intro w'
     go_simp
     with_reducible rfl
    rotate_left
    ·exact aP
    refine pure_ (i := 11) (N := some 7) (v := ?_) (a' := ?_) #[tt, tt, tt, tt, tt, tt, tt, tt, tt, tt, tt, tt] rfl rfl (any_of HT_.out (by kernel_rfl)) (fun _ _ _ h => h) (Or.inl ⟨by rfl, ?_⟩) ?_ ?_
    rotate_left
    ·intro w'
     go_simp
     with_reducible rfl
    rotate_left
    ·exact aP
    refine done_ (done_of HT_.out (by kernel_rfl)) ?_
    obtain ⟨Ao37, co37, eo37⟩ := Kd.R_slice HO_5.out
    subst eo37
    have p619 : 0 ≤ ((ji26) : Int) := of_decide_eq_true aM
    have q619 : (ji26) < (x5_1.length : Int) := of_decide_eq_true aM
    obtain ⟨ad619, e619, hx619_0⟩ := Kd.at_string (Kd.R_reads' HO_5.out).2.2 (ji26) p619 q619
    cases e619
    replace p619 := eq_true p619
    replace q619 := eq_true q619
    try go_wp2
    go_roundg k1
    case measure => have := HK1.out; omega
    case rel => exact ⟨(x5_1), (wrap64 (x6_1 + 1)), (by first | rfl | (simp; done) | (simp [*]; done)), H', ⟨by have := HK1.out; omega⟩, ⟨by (with_reducible repeat (first | apply Kd.R_alloc | apply Kd.R_drewN | apply Kd.R_drew)); exact HO_0.out⟩, ⟨by (with_reducible repeat (first | apply Kd.R_alloc | apply Kd.R_drewN | apply Kd.R_drew)); exact HO_5.out⟩, ⟨by repeat (first | (with_reducible first | exact HB.out | apply below_alloc | apply pw_below_drewN | apply below_drew1) | exact HB.out)⟩⟩
   rw [if_pos c29] at H
   have c29b0 : (Op.bytesLess ((rdOf ByteArray.empty x5_1 (ji26)).toList) ((js16).toList)) = true := c29
   clear c29
   by_cases c30 : x5_1.length < 8796093022208
   rotate_left
   ·rw [if_neg c30] at H
    exact absurd H (by simp)
   rw [if_pos c30] at H
   have LMc30 := Aside0.mk c30
   clear c30
   obtain ⟨y620, hy620⟩ : ∃ y_ : List ByteArray, y_ = (x5_1 ++ [js16]) := ⟨_, rfl⟩
   replace H : (withylaw17_LevelLonger.l0 k1 t611 js6 y620 (wrap64 (x6_1 + 1))) = some r := by first | (rw [hy620]; with_reducible exact H) | (have H2_ := (Option.bind_some _ _).symm.trans H; rw [hy620]; with_reducible exact H2_) | (have H2_ := (Option.bind_some _ _).symm.trans H; with_reducible exact H2_) | with_reducible exact H | (rw [hy620]; exact H) | exact H
   have Ny620 := Aside0.mk hy620
   clear hy620
   have H' := Aside0.mk H
   clear H
   obtain ⟨Ao31, co31, eo31⟩ := Kd.R_slice HO_0.out
   subst eo31
   try go_wp2
   replace HO_0 := as_ (Kd.R_drew HO_0.out)
   replace HO_5 := as_ (Kd.R_drew HO_5.out)
   replace HB := as_ (below_drew1 HB.out)
   have p614 : 0 ≤ (x6_1 : Int) := of_decide_eq_true aM
   have q614 : x6_1 < (t611.length : Int) := of_decide_eq_true aM
   obtain ⟨ad614, e614, hx614_0⟩ := Kd.at_string (Kd.R_reads' HO_0.out).2.2 x6_1 p614 q614
   cases e614
   replace p614 := eq_true p614
   replace q614 := eq_true q614
   have p615 : 0 ≤ (x6_1 : Int) := of_decide_eq_true aM
   have q615 : x6_1 < (t611.length : Int) := of_decide_eq_true aM
   obtain ⟨ad615, e615, hx615_0⟩ := Kd.at_string (Kd.R_reads' HO_0.out).2.2 x6_1 p615 q615
   obtain rfl : ad614 = ad615 := (by injection e615)
   replace p615 := eq_true p615
   replace q615 := eq_true q615
   refine start_ (n := 12) (S := fun w' => w'.cell? (ad614.add (x6_1).toNat) = some (.string (rdOf ByteArray.empty t611 x6_1)) ∧ w'.cell? (ad614.add (x6_1).toNat) = some (.string (rdOf ByteArray.empty t611 x6_1))) (ds := []) #[ff, ff, ff, ff, ff, ff, ff, ff, ff, ff, ff, ff] (by kernel_rfl) rfl rfl ⟨hx614_0, hx615_0⟩ (fun hHeld => ?_); refine with_tabW withylaw17_LevelLonger.tab7 withylaw17_LevelLonger.bits7 (fun HT_ HW_ => ?_)
   generalize wr.drew = w32 at HO_0 HO_5 HB hx614_0 hx615_0 hHeld ⊢
   refine pure_ (i := 0) (N := some 26) (v := ?_) (a' := ?_) #[tt, ff, ff, ff, ff, ff, ff, ff, ff, ff, ff, ff] rfl rfl (any_of HT_.out (by kernel_rfl)) (fun _ _ _ h => h) (Or.inl ⟨by rfl, ?_⟩) ?_ ?_
   rotate_left
   ·intro w'
    go_simp
    with_reducible rfl
   rotate_left
   ·exact aP
   refine pure_ (i := 1) (N := some 27) (v := ?_) (a' := ?_) #[tt, tt, ff, ff, ff, ff, ff, ff, ff, ff, ff, ff] rfl rfl (any_of HT_.out (by kernel_rfl)) (fun _ _ _ h => h) (Or.inl ⟨by rfl, ?_⟩) ?_ ?_
   rotate_left
   ·intro w'
    go_simp
    with_reducible rfl
   rotate_left
   ·exact aP
   refine pure_ (i := 2) (N := some 28) (v := ?_) (a' := ?_) #[tt, tt, tt, ff, ff, ff, ff, ff, ff, ff, ff, ff] rfl rfl (any_of HT_.out (by kernel_rfl)) (fun _ _ _ h => h) (Or.inl ⟨by rfl, ?_⟩) ?_ ?_
   rotate_left
   ·intro w'
    go_simp
    with_reducible rfl
   rotate_left
   ·exact aP
   refine pure_ (i := 4) (N := some 30) (v := ?_) (a' := ?_) #[tt, tt, tt, ff, tt, ff, ff, ff, ff, ff, ff, ff] rfl rfl (any_of HT_.out (by kernel_rfl)) (fun _ _ _ h => h) (Or.inl ⟨by rfl, ?_⟩) ?_ ?_
   rotate_left
   ·intro w'
    go_simp
    with_reducible rfl
   rotate_left
   ·exact aP
   refine pure_ (i := 5) (N := some 31) (v := ?_) (a' := ?_) #[tt, tt, tt, ff, tt, tt, ff, ff, ff, ff, ff, ff] rfl rfl (any_of HT_.out (by kernel_rfl)) (fun _ _ _ h => h) (Or.inl ⟨by rfl, ?_⟩) ?_ ?_
   rotate_left
   ·intro w'
    go_simp
    with_reducible rfl
   rotate_left
   ·exact aP
   refine pure_ (i := 6) (N := some 32) (v := ?_) (a' := ?_) #[tt, tt, tt, ff, tt, tt, tt, ff, ff, ff, ff, ff] rfl rfl (any_of HT_.out (by kernel_rfl)) (fun _ _ _ h => h) (Or.inl ⟨by rfl, ?_⟩) ?_ ?_
   rotate_left
   ·intro w'
    go_simp
    with_reducible rfl
   rotate_left
   ·exact aP
   refine take_ (i := 3) (N := some 29) (v := ?_) (a' := ?_) #[tt, tt, tt, tt, tt, tt, tt, ff, ff, ff, ff, ff] rfl rfl (take_ofW HT_.out HW_.out (by kernel_rfl)) (fun _ _ _ h => h) (Or.inl ⟨by rfl, ?_⟩) hHeld ?_ ?_
   rotate_left
   ·rintro w' ⟨s0, s1⟩
    go_simp
    with_reducible rfl
   rotate_left
   ·exact aP
   refine take_ (i := 7) (N := some 33) (v := ?_) (a' := ?_) #[tt, tt, tt, tt, tt, tt, tt, tt, ff, ff, ff, ff] rfl rfl (take_ofW HT_.out HW_.out (by kernel_rfl)) (fun _ _ _ h => h) (Or.inl ⟨by rfl, ?_⟩) hHeld ?_ ?_
   rotate_left
   ·rintro w' ⟨s0, s1⟩
    go_simp
    with_reducible rfl
   rotate_left
   ·exact aP
   refine pure_ (i := 8) (N := some 34) (v := ?_) (a' := ?_) #[tt, tt, tt, tt, tt, tt, tt, tt, tt, ff, ff, ff] rfl rfl (any_of HT_.out (by kernel_rfl)) (fun _ _ _ h => h) (Or.inl ⟨by rfl, ?_⟩) ?_ ?_
   rotate_left
   ·intro w'
    go_simp
    with_reducible rfl
   rotate_left
   ·exact aP
   refine pure_ (i := 9) (N := some 35) (v := ?_) (a' := ?_) #[tt, tt, tt, tt, tt, tt, tt, tt, tt, tt, ff, ff] rfl rfl (any_of HT_.out (by kernel_rfl)) (fun _ _ _ h => h) (Or.inl ⟨by rfl, ?_⟩) ?_ ?_
   rotate_left
   ·intro w'
    go_simp
    with_reducible rfl
   rotate_left
   ·exact aP
   refine pure_ (i := 10) (N := some 36) (v := ?_) (a' := ?_) #[tt, tt, tt, tt, tt, tt, tt, tt, tt, tt, tt, ff] rfl rfl (any_of HT_.out (by kernel_rfl)) (fun _ _ _ h => h) (Or.inl ⟨by rfl, ?_⟩) ?_ ?_
   rotate_left
   ·intro w'
    go_simp
    with_reducible rfl
   rotate_left
   ·exact aP
   refine pure_ (i := 11) (N := some 7) (v := ?_) (a' := ?_) #[tt, tt, tt, tt, tt, tt, tt, tt, tt, tt, tt, tt] rfl rfl (any_of HT_.out (by kernel_rfl)) (fun _ _ _ h => h) (Or.inl ⟨by rfl, ?_⟩) ?_ ?_
   rotate_left
   ·intro w'
    go_simp
    with_reducible rfl
   rotate_left
   ·exact aP
   refine done_ (done_of HT_.out (by kernel_rfl)) ?_
   obtain ⟨Ao33, co33, eo33⟩ := Kd.R_slice HO_5.out
   subst eo33
   have p619 : 0 ≤ ((ji26) : Int) := of_decide_eq_true aM
   have q619 : (ji26) < (x5_1.length : Int) := of_decide_eq_true aM
   obtain ⟨ad619, e619, hx619_0⟩ := Kd.at_string (Kd.R_reads' HO_5.out).2.2 (ji26) p619 q619
   cases e619
   replace p619 := eq_true p619
   replace q619 := eq_true q619
   try go_wp2_with (first | ((with_reducible refine gate_builtin (b := .append) (xs := #[.tmp 54, .tmp 56]) rfl ?_); (try (refine gate_guard (by rfl) ?_; dsimp only)); at_builtin; refine Kd.R_append Kd.string (w0 := w) w.heap.size rfl (.tmp 54) (.tmp 56) 22 9 (.string ⟨#[]⟩) 16 rfl Try.underlying22 info9 rfl (by decide) (by omega) (.slice (some ad619) x5_1.length co33) x5_1 js16 [.string js16] (fun k_ => some k_ ≠ (.slice (some ad614) t611.length co31 : Value).ownBlock) (fun _ => False) rfl rfl ?aP (fun _ hk => hk.elim) ?aF ?aO ?aB ?aS ?aL ?_; (case aP => exact rfl); (case aB => exact bA); (case aF => exact (fun k_ hk => Kd.fresh' (Kd.R_lt (by (with_reducible repeat (first | apply Kd.R_alloc | apply Kd.R_drewN | apply Kd.R_drew)); exact HO_0.out)) k_ hk)); (case aO => exact (by (with_reducible repeat (first | apply Kd.R_alloc | apply Kd.R_drewN | apply Kd.R_drew)); exact HO_5.out)); (case aS => exact (below_size bA)); (case aL => have := LMc30.out; omega); intro v621 w34 ho hb hg hat; rw [← Ny620.out] at ho; have HO622 := as_ (ho); replace HO_0 := as_ (Kd.R_after (ok := (fun _ => True)) (by (with_reducible repeat (first | apply Kd.R_alloc | apply Kd.R_drewN | apply Kd.R_drew)); exact Kd.R_mono HO_0.out (fun _ hk => ⟨trivial, hk⟩)) hg hat); replace HB := as_ (hb); clear HO_5; clear ho hb hg hat))
   go_roundg k1
   case measure => have := HK1.out; omega
   case rel => exact ⟨(y620), (wrap64 (x6_1 + 1)), (by first | rfl | (simp; done) | (simp [*]; done)), H', ⟨by have := HK1.out; omega⟩, ⟨by (with_reducible repeat (first | apply Kd.R_alloc | apply Kd.R_drewN | apply Kd.R_drew)); exact Kd.R_mono HO_0.out (fun _ hk => hk.2)⟩, ⟨by (with_reducible repeat (first | apply Kd.R_alloc | apply Kd.R_drewN | apply Kd.R_drew)); exact HO622.out⟩, ⟨by repeat (first | (with_reducible first | exact HB.out | apply below_alloc | apply pw_below_drewN | apply below_drew1) | exact HB.out)⟩⟩
end Go.Proofs.Ytfialmegikegbaa.P
