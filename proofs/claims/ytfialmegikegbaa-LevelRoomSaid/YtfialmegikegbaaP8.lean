/- What is proved here: for functions of the Go text, a Lean function each, and that the call comes to just what it answers. Conditions: as each contract names them. Written by wip/tools/myprint.py, a driver of the print of the kit. -/
import Derived.Test.YtfialmegikegbaaP0
import Derived.Test.YtfialmegikegbaaP3
import Derived.Test.YtfialmegikegbaaP4
import Derived.Test.YtfialmegikegbaaP7
import Derived.Test.YtfialmegikegbaaWAbbr
namespace Go.Proofs.Ytfialmegikegbaa.P
open Go.RowKit Go.Proofs.YtfialmegikegbaaW.PrintWords Go.Proofs.YtfialmegikegbaaW.PrintLast Go.Proofs.YtfialmegikegbaaW.PrintMore Go.Proofs.YtfialmegikegbaaW.Abbr
-- PACKED
attribute [local go_sem] max2_int min2_int max_two min_two max_three min_three max_four min_four Go.Proofs.YtfialmegikegbaaLaws.str_leq Go.Proofs.YtfialmegikegbaaLaws.str_gtr Go.Proofs.YtfialmegikegbaaLaws.str_geq Go.Proofs.YtfialmegikegbaaLaws.max2_str Go.Proofs.YtfialmegikegbaaLaws.min2_str   -- for this text's walks alone
set_option linter.unusedVariables false
set_option linter.unusedSimpArgs false

/-! ### slot_Pack: function 41 -/
mutual
def slot_Pack.j0 : Nat → Int → ByteArray → List ByteArray → Bool → Option (ByteArray × Int)
 | 0, _, _, _, _ => none
 | k + 1, x0, x1, x2, x17 => if x17 = true then (some ((⟨#[]⟩ : ByteArray), 4)) else ((slot_Size.f x1 x2).bind fun t363 => (if t363 > x0 then (some ((⟨#[]⟩ : ByteArray), 8)) else (slot_Pack.l0 k x0 x1 (⟨#[]⟩ : ByteArray) x2 (x2.length : Int) 0)))
def slot_Pack.l0 : Nat → Int → ByteArray → ByteArray → List ByteArray → Int → Int → Option (ByteArray × Int)
 | 0, _, _, _, _, _, _ => none
 | k + 1, x0, x8, x9, x24, x25, x26 => if x26 < x25 then (if 0 ≤ x26 then (if x26 < (x24.length : Int) then ((slot_place.f (x8.size : Int)).bind fun t365 => (if t365.size + x9.size ≤ 9223372036854775807 then (if x8.size + (rdOf ByteArray.empty x24 x26).size ≤ 9223372036854775807 then (slot_Pack.l0 k x0 (x8 ++ (rdOf ByteArray.empty x24 x26)) (t365 ++ x9) x24 x25 (wrap64 (x26 + 1))) else (none)) else (none))) else (none)) else (none)) else ((slot_place.f (x8.size : Int)).bind fun t366 => (if t366.size + x9.size ≤ 9223372036854775807 then ((strings_Repeat.f (⟨#[0]⟩ : ByteArray) (wrap64 ((wrap64 (x0 - (x8.size : Int))) - ((t366 ++ x9).size : Int)))).bind fun t367 => (if x8.size + t367.size ≤ 9223372036854775807 then (if (x8 ++ t367).size + (t366 ++ x9).size ≤ 9223372036854775807 then (some ((x8 ++ t367) ++ (t366 ++ x9), 0)) else (none)) else (none))) else (none)))
end
def slot_Pack.f (k : Nat) (a0 : Int) (a1 : ByteArray) (l2 : List ByteArray) : Option (ByteArray × Int) := if a0 < 0 then (slot_Pack.j0 k a0 a1 l2 true) else (slot_Pack.j0 k a0 a1 l2 (decide (a0 > 65535)))
theorem slot_Pack.mono_l : ∀ k, (∀ y0 y1 y2 y3, LeO (slot_Pack.j0 k y0 y1 y2 y3) (slot_Pack.j0 (k + 1) y0 y1 y2 y3)) ∧ (∀ y0 y1 y2 y3 y4 y5, LeO (slot_Pack.l0 k y0 y1 y2 y3 y4 y5) (slot_Pack.l0 (k + 1) y0 y1 y2 y3 y4 y5))
 | 0 => ⟨fun _ _ _ _ r h => by simp [slot_Pack.j0] at h, fun _ _ _ _ _ _ r h => by simp [slot_Pack.l0] at h⟩
 | k + 1 => by
  obtain ⟨ih0, ih1⟩ := slot_Pack.mono_l k
  refine ⟨?_, ?_⟩
  ·intro y0 y1 y2 y3
   unfold slot_Pack.j0
   repeat' first
   | (with_reducible exact ih0 _ _ _ _)
   | (with_reducible exact ih1 _ _ _ _ _ _)
   | (with_reducible exact LeO.refl _)
   | (with_reducible exact LeO.none _)
   | (with_reducible refine LeO.ite ?_ ?_)
   | (with_reducible refine LeO.bind ?_ (fun _ => ?_))
   | exact ih0 _ _ _ _
   | exact ih1 _ _ _ _ _ _
   | exact LeO.none _
   | refine LeO.ite ?_ ?_
   | refine LeO.bind ?_ (fun _ => ?_)
  ·intro y0 y1 y2 y3 y4 y5
   unfold slot_Pack.l0
   repeat' first
   | (with_reducible exact ih0 _ _ _ _)
   | (with_reducible exact ih1 _ _ _ _ _ _)
   | (with_reducible exact LeO.refl _)
   | (with_reducible exact LeO.none _)
   | (with_reducible refine LeO.ite ?_ ?_)
   | (with_reducible refine LeO.bind ?_ (fun _ => ?_))
   | exact ih0 _ _ _ _
   | exact ih1 _ _ _ _ _ _
   | exact LeO.none _
   | refine LeO.ite ?_ ?_
   | refine LeO.bind ?_ (fun _ => ?_)
theorem slot_Pack.mono : ∀ a0 a1 a2 k, LeO (slot_Pack.f k a0 a1 a2) (slot_Pack.f (k + 1) a0 a1 a2) := by
 intro a0 a1 a2 k
 obtain ⟨ih0, ih1⟩ := slot_Pack.mono_l k
 unfold slot_Pack.f
 repeat' first
   | (with_reducible exact ih0 _ _ _ _)
   | (with_reducible exact ih1 _ _ _ _ _ _)
   | (with_reducible exact LeO.refl _)
   | (with_reducible exact LeO.none _)
   | (with_reducible refine LeO.ite ?_ ?_)
   | (with_reducible refine LeO.bind ?_ (fun _ => ?_))
   | exact ih0 _ _ _ _
   | exact ih1 _ _ _ _ _ _
   | exact LeO.none _
   | refine LeO.ite ?_ ?_
   | refine LeO.bind ?_ (fun _ => ?_)
set_option maxHeartbeats 8000000 in
set_option maxRecDepth 100000 in
theorem slot_Pack.calls (k : Nat) (a0 : Int) (a1 : ByteArray) (A2 : Option Addr) (c2 : Nat) (l2 : List ByteArray) (r1 : ByteArray) (r2 : Int) (w : World) (hr2 : Kd.C Kd.string w A2 l2.length l2) (hc2 : l2.length ≤ c2) (h : slot_Pack.f k a0 a1 l2 = some (r1, r2)) :
  Calls Try.prog 41 #[.int .i64 a0, .string a1, .slice A2 l2.length c2] w fun e w' => e = .returned (.tuple #[.string r1, .int .i64 r2]) ∧ Below w.heap.size w w' := by
 have HR2 := Aside0.mk hr2
 have HC2 := Aside0.mk hc2
 clear hr2 hc2
 have HB := as_ (Below.refl w.heap.size w)
 have H : (if a0 < 0 then (slot_Pack.j0 k a0 a1 l2 true) else (slot_Pack.j0 k a0 a1 l2 (decide (a0 > 65535)))) = some (r1, r2) := h
 clear h
 have HC4 := Aside0.mk H
 clear H
 go_enter Try.func41, Try.ntmps41
 go_upto_region 1 with (fail)
 go_cut [17] (fun v17 wc => ∃ (kq : Nat) (x17_3 : Bool), v17 = .bool x17_3 ∧ Aside0 (slot_Pack.j0 kq a0 a1 l2 x17_3 = some (r1, r2)) ∧ Aside0 (kq ≤ k) ∧ Aside0 (Below w.heap.size w wc))
 case first =>
  have H := HC4.out
  clear HC4
  by_cases c5 : a0 < 0
  rotate_left
  ·rw [if_neg c5] at H
   have c5b0 : decide (a0 < 0) = false := decide_eq_false c5
   clear c5
   (first | rw [c5b0] | (simp only [i64_w, i32_w]; rw [c5b0]) | rw [c5b1] | skip)
   have H' := Aside0.mk H
   clear H
   go_wp2
   go_meet
   case rel => exact ⟨_, (decide (a0 > 65535)), (by first | rfl | (simp; done) | (simp [*]; done)), H', ⟨by first | omega | exact Nat.le_refl _⟩, ⟨by repeat (first | (with_reducible first | exact HB.out | apply below_alloc | apply pw_below_drewN | apply below_drew1) | exact HB.out)⟩⟩
  rw [if_pos c5] at H
  have c5b0 : decide (a0 < 0) = true := decide_eq_true c5
  clear c5
  (first | rw [c5b0] | (simp only [i64_w, i32_w]; rw [c5b0]) | rw [c5b1] | skip)
  have H' := Aside0.mk H
  clear H
  go_wp2
  go_meet
  case rel => exact ⟨_, (true), (by first | rfl | (simp; done) | (simp [*]; done)), H', ⟨by first | omega | exact Nat.le_refl _⟩, ⟨by repeat (first | (with_reducible first | exact HB.out | apply below_alloc | apply pw_below_drewN | apply below_drew1) | exact HB.out)⟩⟩
 case rest =>
  clear HC4
  try clear c2
  try clear p2
  try clear c4
  try clear c5
  try clear c5b0
  try clear c5b1
  obtain ⟨kq, x17_3, rfl, HA, HJ3, HB⟩ := hcut
  cases kq with
  | zero => exact absurd HA.out (by simp [slot_Pack.j0])
  | succ kj3 =>
   have H := HA.out
   clear HA
   simp only [slot_Pack.j0] at H
   by_cases c6 : x17_3 = true
   ·subst c6
    have H1 : (some ((⟨#[]⟩ : ByteArray), 4)) = some (r1, r2) := by rw [if_pos rfl] at H; exact H
    clear H
    have H := H1
    clear H1
    simp only [Option.some.injEq, Prod.mk.injEq] at H
    obtain ⟨rfl, rfl⟩ := H
    go_wp2
    go_ret2
    exact ⟨eW, by repeat (first | (with_reducible first | exact HB.out | apply below_alloc | apply pw_below_drewN | apply below_drew1) | exact HB.out)⟩
   replace c6 := Bool.eq_false_iff.mpr c6
   subst c6
   have H1 : ((slot_Size.f a1 l2).bind fun t363 => (if t363 > a0 then (some ((⟨#[]⟩ : ByteArray), 8)) else (slot_Pack.l0 kj3 a0 a1 (⟨#[]⟩ : ByteArray) l2 (l2.length : Int) 0))) = some (r1, r2) := by rw [if_neg (show ¬ (false = true) by decide)] at H; exact H
   clear H
   have H := H1
   clear H1
   replace H := bM H
   obtain ⟨t363, A70, H⟩ := H
   replace H : (if t363 > a0 then (some ((⟨#[]⟩ : ByteArray), 8)) else (slot_Pack.l0 kj3 a0 a1 (⟨#[]⟩ : ByteArray) l2 (l2.length : Int) 0)) = some (r1, r2) := H
   have A7 := Aside0.mk A70
   clear A70
   by_cases c8 : t363 > a0
   ·rw [if_pos c8] at H
    have c8b0 : decide (a0 < t363) = true := decide_eq_true c8
    clear c8
    simp only [Option.some.injEq, Prod.mk.injEq] at H
    obtain ⟨rfl, rfl⟩ := H
    go_wp2_with (first | ((with_reducible refine gate_callee (f := 53) rfl ?_); refine goesL_ (some 20) rfl rfl Try.func53 (by kernel_rfl) rfl #[.string a1, .slice A2 l2.length c2] rfl aO ?_; (with_reducible refine (slot_Size.calls a1 _ _ l2 t363 _ ?side1 ?side2 A7.out).mono ?_); (case side1 => repeat (first | exact (Kd.C_below HR2.out HB.out) | (with_reducible refine Kd.C_alloc ?_ _) | (with_reducible refine Kd.C_drewN ?_ _) | (with_reducible refine Kd.C_drew ?_))); (case side2 => exact HC2.out); rintro e w9 ⟨rfl, hb⟩; refine ⟨_, rfl, ?_⟩; replace HB := as_ (below_step bA hb); (try clear hb); (try clear hb2); (try clear hk); (try clear hi)))
    go_ret2
    exact ⟨eW, by repeat (first | (with_reducible first | exact HB.out | apply below_alloc | apply pw_below_drewN | apply below_drew1) | exact HB.out)⟩
   rw [if_neg c8] at H
   have c8b0 : decide (a0 < t363) = false := decide_eq_false c8
   clear c8
   have H' := Aside0.mk H
   clear H
   go_wp2_with (first | ((with_reducible refine gate_callee (f := 53) rfl ?_); refine goesL_ (some 20) rfl rfl Try.func53 (by kernel_rfl) rfl #[.string a1, .slice A2 l2.length c2] rfl aO ?_; (with_reducible refine (slot_Size.calls a1 _ _ l2 t363 _ ?side1 ?side2 A7.out).mono ?_); (case side1 => repeat (first | exact (Kd.C_below HR2.out HB.out) | (with_reducible refine Kd.C_alloc ?_ _) | (with_reducible refine Kd.C_drewN ?_ _) | (with_reducible refine Kd.C_drew ?_))); (case side2 => exact HC2.out); rintro e w10 ⟨rfl, hb⟩; refine ⟨_, rfl, ?_⟩; replace HB := as_ (below_step bA hb); (try clear hb); (try clear hb2); (try clear hk); (try clear hi)))
   go_loopg [8, 9, 26] kj3 (fun kq v8 v9 v26 w' => ∃ (x8_2 : ByteArray) (x9_2 : ByteArray) (x26_2 : Int), v8 = .string x8_2 ∧ v9 = .string x9_2 ∧ v26 = .int .i64 x26_2 ∧ Aside0 (slot_Pack.l0 kq a0 x8_2 x9_2 l2 (l2.length : Int) x26_2 = some (r1, r2)) ∧ Aside0 (kq ≤ kj3) ∧ Aside0 (Below w.heap.size w w'))
   case atStart => exact ⟨(a1), ((⟨#[]⟩ : ByteArray)), (0), (by first | rfl | (simp; done) | (simp [*]; done)), (by first | rfl | (simp; done) | (simp [*]; done)), (by first | rfl | (simp; done) | (simp [*]; done)), H', ⟨Nat.le_refl _⟩, ⟨by repeat (first | (with_reducible first | exact HB.out | apply below_alloc | apply pw_below_drewN | apply below_drew1) | exact HB.out)⟩⟩
   case round =>
    clear H'
    try clear c2
    try clear p2
    try clear c4
    try clear c5
    try clear c5b0
    try clear c5b1
    try clear c6
    try clear c8
    try clear c8b0
    try clear p2
    obtain ⟨x8_2, x9_2, x26_2, rfl, rfl, rfl, HA, HK2, HB⟩ := hrel
    cases gk with
    | zero => exact absurd HA.out (by simp [slot_Pack.l0])
    | succ k2 =>
     have H := HA.out
     clear HA
     simp only [slot_Pack.l0] at H
     by_cases c11 : x26_2 < (l2.length : Int)
     rotate_left
     ·rw [if_neg c11] at H
      have c11b0 : decide (x26_2 < (l2.length : Int)) = false := decide_eq_false c11
      clear c11
      replace H := bM H
      obtain ⟨t366, A200, H⟩ := H
      replace H : (if t366.size + x9_2.size ≤ 9223372036854775807 then ((strings_Repeat.f (⟨#[0]⟩ : ByteArray) (wrap64 ((wrap64 (a0 - (x8_2.size : Int))) - ((t366 ++ x9_2).size : Int)))).bind fun t367 => (if x8_2.size + t367.size ≤ 9223372036854775807 then (if (x8_2 ++ t367).size + (t366 ++ x9_2).size ≤ 9223372036854775807 then (some ((x8_2 ++ t367) ++ (t366 ++ x9_2), 0)) else (none)) else (none))) else (none)) = some (r1, r2) := H
      have A20 := Aside0.mk A200
      clear A200
      by_cases c21 : t366.size + x9_2.size ≤ 9223372036854775807
      rotate_left
      ·rw [if_neg c21] at H
       exact absurd H (by simp)
  
      rw [if_pos c21] at H
      have c21b0 := eq_true c21
      have c21b1 : decide (t366.size + x9_2.size ≤ 9223372036854775807) = true := decide_eq_true c21
      try have c21b2 : (9223372036854775807 < t366.size + x9_2.size) = False := eq_false (Nat.not_lt.2 c21)
      obtain ⟨js22, hjs22⟩ : ∃ j_ : ByteArray, (t366 ++ x9_2) = j_ := ⟨_, rfl⟩
      replace H : ((strings_Repeat.f (⟨#[0]⟩ : ByteArray) (wrap64 ((wrap64 (a0 - (x8_2.size : Int))) - ((js22).size : Int)))).bind fun t367 => (if x8_2.size + t367.size ≤ 9223372036854775807 then (if (x8_2 ++ t367).size + (js22).size ≤ 9223372036854775807 then (some ((x8_2 ++ t367) ++ (js22), 0)) else (none)) else (none))) = some (r1, r2) := by first | (rw [hjs22] at H; exact H) | (simp only [hjs22] at H ⊢; exact H)
      (try rw [hjs22] at A20)
      replace H := bM H
      obtain ⟨t367, A230, H⟩ := H
      replace H : (if x8_2.size + t367.size ≤ 9223372036854775807 then (if (x8_2 ++ t367).size + (js22).size ≤ 9223372036854775807 then (some ((x8_2 ++ t367) ++ (js22), 0)) else (none)) else (none)) = some (r1, r2) := H
      have A23 := Aside0.mk A230
      clear A230
      by_cases c24 : x8_2.size + t367.size ≤ 9223372036854775807
      rotate_left
      ·rw [if_neg c24] at H
       exact absurd H (by simp)
      rw [if_pos c24] at H
      have c24b0 := eq_true c24
      have c24b1 : decide (x8_2.size + t367.size ≤ 9223372036854775807) = true := decide_eq_true c24
      try have c24b2 : (9223372036854775807 < x8_2.size + t367.size) = False := eq_false (Nat.not_lt.2 c24)
      obtain ⟨js25, hjs25⟩ : ∃ j_ : ByteArray, (x8_2 ++ t367) = j_ := ⟨_, rfl⟩
      replace H : (if (js25).size + (js22).size ≤ 9223372036854775807 then (some ((js25) ++ (js22), 0)) else (none)) = some (r1, r2) := by first | (rw [hjs25] at H; exact H) | (simp only [hjs25] at H ⊢; exact H)
      (try rw [hjs25] at A20)
      (try rw [hjs25] at A23)
      by_cases c26 : (js25).size + (js22).size ≤ 9223372036854775807
      rotate_left
      ·rw [if_neg c26] at H
       exact absurd H (by simp)
      rw [if_pos c26] at H
      have c26b0 := eq_true c26
      have c26b1 : decide ((js25).size + (js22).size ≤ 9223372036854775807) = true := decide_eq_true c26
      try have c26b2 : (9223372036854775807 < (js25).size + (js22).size) = False := eq_false (Nat.not_lt.2 c26)
      obtain ⟨js27, hjs27⟩ : ∃ j_ : ByteArray, ((js25) ++ (js22)) = j_ := ⟨_, rfl⟩
      replace H : (some (js27, 0)) = some (r1, r2) := by first | (rw [hjs27] at H; exact H) | (simp only [hjs27] at H ⊢; exact H)
      (try rw [hjs27] at A20)
      (try rw [hjs27] at A23)
      simp only [Option.some.injEq, Prod.mk.injEq] at H
      obtain ⟨rfl, rfl⟩ := H
      go_wp2_with (first | ((with_reducible refine gate_callee (f := 54) rfl ?_); refine goesL_ (some 41) rfl rfl Try.func54 (by kernel_rfl) rfl #[.int .i64 (x8_2.size : Int)] rfl aO ?_; (with_reducible refine (slot_place.calls (x8_2.size : Int) t366 _ A20.out).mono ?_); rintro e w28 ⟨rfl, hb⟩; refine ⟨_, rfl, ?_⟩; replace HB := as_ (below_step bA hb); (try clear hb); (try clear hb2); (try clear hk); (try clear hi)) | ((with_reducible refine gate_callee (f := 55) rfl ?_); refine goesL_ (some 52) rfl rfl Try.func55 (by kernel_rfl) rfl #[.string (⟨#[0]⟩ : ByteArray), .int .i64 (wrap64 ((wrap64 (a0 - (x8_2.size : Int))) - ((js22).size : Int)))] rfl aO ?_; (with_reducible refine (strings_Repeat.calls (⟨#[0]⟩ : ByteArray) (wrap64 ((wrap64 (a0 - (x8_2.size : Int))) - ((js22).size : Int))) t367 _ A23.out).mono ?_); rintro e w29 ⟨rfl, hb⟩; refine ⟨_, rfl, ?_⟩; replace HB := as_ (below_step bA hb); (try clear hb); (try clear hb2); (try clear hk); (try clear hi)))
      go_ret2
      exact ⟨by first | rfl | (simp [errW_none, errW_some] <;> rfl) | (simp only [← hjs22, ← hjs25, ← hjs27]; first | rfl | (simp [errW_none, errW_some] <;> rfl)) | (simp [*, errW_none, errW_some] <;> rfl), by repeat (first | (with_reducible first | exact HB.out | apply below_alloc | apply pw_below_drewN | apply below_drew1) | exact HB.out)⟩
     rw [if_pos c11] at H
     have c11b0 : decide (x26_2 < (l2.length : Int)) = true := decide_eq_true c11
     clear c11
     by_cases c12 : 0 ≤ x26_2
     rotate_left
     ·rw [if_neg c12] at H
      exact absurd H (by simp)
     rw [if_pos c12] at H
     have c12b0 : decide (0 ≤ x26_2) = true := decide_eq_true c12
     clear c12
     by_cases c13 : x26_2 < (l2.length : Int)
     rotate_left
     ·rw [if_neg c13] at H
      exact absurd H (by simp)
     rw [if_pos c13] at H
     have c13b0 : decide (x26_2 < (l2.length : Int)) = true := decide_eq_true c13
     clear c13
     replace H := bM H
     obtain ⟨t365, A140, H⟩ := H
     replace H : (if t365.size + x9_2.size ≤ 9223372036854775807 then (if x8_2.size + (rdOf ByteArray.empty l2 x26_2).size ≤ 9223372036854775807 then (slot_Pack.l0 k2 a0 (x8_2 ++ (rdOf ByteArray.empty l2 x26_2)) (t365 ++ x9_2) l2 (l2.length : Int) (wrap64 (x26_2 + 1))) else (none)) else (none)) = some (r1, r2) := H
     have A14 := Aside0.mk A140
     clear A140
     by_cases c15 : t365.size + x9_2.size ≤ 9223372036854775807
     rotate_left
     ·rw [if_neg c15] at H
      exact absurd H (by simp)
     rw [if_pos c15] at H
     have c15b0 := eq_true c15
     have c15b1 : decide (t365.size + x9_2.size ≤ 9223372036854775807) = true := decide_eq_true c15
     try have c15b2 : (9223372036854775807 < t365.size + x9_2.size) = False := eq_false (Nat.not_lt.2 c15)
     obtain ⟨js16, hjs16⟩ : ∃ j_ : ByteArray, (t365 ++ x9_2) = j_ := ⟨_, rfl⟩
     replace H : (if x8_2.size + (rdOf ByteArray.empty l2 x26_2).size ≤ 9223372036854775807 then (slot_Pack.l0 k2 a0 (x8_2 ++ (rdOf ByteArray.empty l2 x26_2)) js16 l2 (l2.length : Int) (wrap64 (x26_2 + 1))) else (none)) = some (r1, r2) := by first | (rw [hjs16] at H; exact H) | (simp only [hjs16] at H ⊢; exact H)
     (try rw [hjs16] at A14)
     by_cases c17 : x8_2.size + (rdOf ByteArray.empty l2 x26_2).size ≤ 9223372036854775807
     rotate_left
     ·rw [if_neg c17] at H
      exact absurd H (by simp)
     rw [if_pos c17] at H
     have c17b0 := eq_true c17
     have c17b1 : decide (x8_2.size + (rdOf ByteArray.empty l2 x26_2).size ≤ 9223372036854775807) = true := decide_eq_true c17
     try have c17b2 : (9223372036854775807 < x8_2.size + (rdOf ByteArray.empty l2 x26_2).size) = False := eq_false (Nat.not_lt.2 c17)
     obtain ⟨js18, hjs18⟩ : ∃ j_ : ByteArray, (x8_2 ++ (rdOf ByteArray.empty l2 x26_2)) = j_ := ⟨_, rfl⟩
     replace H : (slot_Pack.l0 k2 a0 js18 js16 l2 (l2.length : Int) (wrap64 (x26_2 + 1))) = some (r1, r2) := by first | (rw [hjs18] at H; exact H) | (simp only [hjs18] at H ⊢; exact H)
     (try rw [hjs18] at A14)
     have H' := Aside0.mk H
     clear H
     have p364 : 0 ≤ (x26_2 : Int) := of_decide_eq_true aM
     have q364 : x26_2 < (l2.length : Int) := of_decide_eq_true aM
     obtain ⟨ad364, e364, hx364_0⟩ := Kd.at_string HR2.out x26_2 p364 q364
     cases e364
     replace hx364_0 := (HB.out.cell (World.block_lt_of_cell? w _ hx364_0)).trans hx364_0
     replace p364 := eq_true p364
     replace q364 := eq_true q364
     go_wp2_with (first | ((with_reducible refine gate_callee (f := 54) rfl ?_); refine goesL_ (some 32) rfl rfl Try.func54 (by kernel_rfl) rfl #[.int .i64 (x8_2.size : Int)] rfl aO ?_; (with_reducible refine (slot_place.calls (x8_2.size : Int) t365 _ A14.out).mono ?_); rintro e w19 ⟨rfl, hb⟩; refine ⟨_, rfl, ?_⟩; replace HB := as_ (below_step bA hb); (try clear hb); (try clear hb2); (try clear hk); (try clear hi)))
     go_roundg k2
     case measure => have := HJ3.out; have := HK2.out; omega
     case rel => exact ⟨(js18), (js16), (wrap64 (x26_2 + 1)), (by first | rfl | (simp; done) | (simp only [← hjs18] <;> (first | rfl | simp)) | (simp [*]; done)), (by first | rfl | (simp; done) | (simp only [← hjs16] <;> (first | rfl | simp)) | (simp [*]; done)), (by first | rfl | (simp; done) | (simp [*]; done)), H', ⟨by have := HJ3.out; have := HK2.out; omega⟩, ⟨by repeat (first | (with_reducible first | exact HB.out | apply below_alloc | apply pw_below_drewN | apply below_drew1) | exact HB.out)⟩⟩
-- NOT PRINTED: function 89 (reflectlite_TypeOf)

-- NOT PRINTED: function 90 (errors_is)

-- NOT PRINTED: function 75 (errors_Is)

-- NOT PRINTED: function 56 (head_number)

-- NOT PRINTED: function 91 (errors_Join)

-- NOT PRINTED: function 92 (errors_New)

-- NOT PRINTED: function 76 (head_fault)

/-! ### head_within: function 93 -/
def head_within.l0 : Nat → Int → List Int → Int → Int → Option (Bool)
 | 0, _, _, _, _ => none
 | k + 1, x0, x7, x8, x9 => if x9 < x8 then (if 0 ≤ x9 then (if x9 < (x7.length : Int) then (if (rd x7 x9) < 0 then (some false) else (if (rd x7 x9) ≥ x0 then (some false) else (head_within.l0 k x0 x7 x8 (wrap64 (x9 + 1))))) else (none)) else (none)) else (some true)
def head_within.f (k : Nat) (a0 : Int) (l1 : List Int) : Option (Bool) := head_within.l0 k a0 l1 (l1.length : Int) 0
theorem head_within.mono_l : ∀ k, (∀ y0 y1 y2 y3, LeO (head_within.l0 k y0 y1 y2 y3) (head_within.l0 (k + 1) y0 y1 y2 y3))
 | 0 => fun _ _ _ _ r h => by simp [head_within.l0] at h
 | k + 1 => by
  have ih0 := head_within.mono_l k
  ·intro y0 y1 y2 y3
   unfold head_within.l0
   repeat' first
   | (with_reducible exact ih0 _ _ _ _)
   | (with_reducible exact LeO.refl _)
   | (with_reducible exact LeO.none _)
   | (with_reducible refine LeO.ite ?_ ?_)
   | (with_reducible refine LeO.bind ?_ (fun _ => ?_))
   | exact ih0 _ _ _ _
   | exact LeO.none _
   | refine LeO.ite ?_ ?_
   | refine LeO.bind ?_ (fun _ => ?_)
theorem head_within.mono : ∀ a0 a1 k, LeO (head_within.f k a0 a1) (head_within.f (k + 1) a0 a1) := by
 intro a0 a1 k
 have ih0 := head_within.mono_l k
 unfold head_within.f
 repeat' first
   | (with_reducible exact ih0 _ _ _ _)
   | (with_reducible exact LeO.refl _)
   | (with_reducible exact LeO.none _)
   | (with_reducible refine LeO.ite ?_ ?_)
   | (with_reducible refine LeO.bind ?_ (fun _ => ?_))
   | exact ih0 _ _ _ _
   | exact LeO.none _
   | refine LeO.ite ?_ ?_
   | refine LeO.bind ?_ (fun _ => ?_)
set_option maxHeartbeats 8000000 in
set_option maxRecDepth 100000 in
theorem head_within.calls (k : Nat) (a0 : Int) (A1 : Option Addr) (c1 : Nat) (l1 : List Int) (r : Bool) (w : World) (hr1 : Kd.C (Kd.int .i64) w A1 l1.length l1) (hc1 : l1.length ≤ c1) (h : head_within.f k a0 l1 = some r) :
  Calls Try.prog 93 #[.int .i64 a0, .slice A1 l1.length c1] w fun e w' => e = .returned (.bool r) ∧ Drawn0 w w' := by
 have HR1 := Aside0.mk hr1
 have HC1 := Aside0.mk hc1
 clear hr1 hc1
 have H : (head_within.l0 k a0 l1 (l1.length : Int) 0) = some r := h
 clear h
 have H' := Aside0.mk H
 clear H
 go_enter Try.func93, Try.ntmps93
 go_wp2
 go_loopg [9] k (fun kq v9 w' => ∃ (x9_1 : Int), v9 = .int .i64 x9_1 ∧ Aside0 (head_within.l0 kq a0 l1 (l1.length : Int) x9_1 = some r) ∧ Aside0 (kq ≤ k) ∧ Drawn0 w w')
 case atStart => exact ⟨(0), (by first | rfl | (simp; done) | (simp [*]; done)), H', ⟨Nat.le_refl _⟩, by repeat (first | exact Drawn0.refl _ | apply Drawn0.step)⟩
 case round =>
  clear H'
  try clear c1
  try clear p2
  obtain ⟨x9_1, rfl, HA, HK1, ⟨m1, rfl⟩⟩ := hrel
  cases gk with
  | zero => exact absurd HA.out (by simp [head_within.l0])
  | succ k1 =>
   have H := HA.out
   clear HA
   simp only [head_within.l0] at H
   by_cases c3 : x9_1 < (l1.length : Int)
   rotate_left
   ·rw [if_neg c3] at H
    have c3b0 : decide (x9_1 < (l1.length : Int)) = false := decide_eq_false c3
    clear c3
    obtain rfl := Option.some.inj H
    go_wp2
    go_ret
    exact ⟨by first | rfl | (simp; done) | (simp [*]; done), by repeat (first | exact Drawn0.refl _ | apply Drawn0.step)⟩
 
   rw [if_pos c3] at H
   have c3b0 : decide (x9_1 < (l1.length : Int)) = true := decide_eq_true c3
   clear c3
   by_cases c4 : 0 ≤ x9_1
   rotate_left
   ·rw [if_neg c4] at H
    exact absurd H (by simp)
   rw [if_pos c4] at H
   have c4b0 : decide (0 ≤ x9_1) = true := decide_eq_true c4
   clear c4
   by_cases c5 : x9_1 < (l1.length : Int)
   rotate_left
   ·rw [if_neg c5] at H
    exact absurd H (by simp)
   rw [if_pos c5] at H
   have c5b0 : decide (x9_1 < (l1.length : Int)) = true := decide_eq_true c5
   clear c5
   by_cases c6 : (rd l1 x9_1) < 0
   ·rw [if_pos c6] at H
    have c6b0 : decide ((rd l1 x9_1) < 0) = true := decide_eq_true c6
    clear c6
    obtain rfl := Option.some.inj H
    have p375 : 0 ≤ (x9_1 : Int) := of_decide_eq_true aM
    have q375 : x9_1 < (l1.length : Int) := of_decide_eq_true aM
    obtain ⟨ad375, e375, hx375_0⟩ := Kd.at_int HR1.out x9_1 p375 q375
    cases e375
    replace p375 := eq_true p375
    replace q375 := eq_true q375
    go_wp2
    go_ret
    exact ⟨by first | rfl | (simp; done) | (simp [*]; done), by repeat (first | exact Drawn0.refl _ | apply Drawn0.step)⟩
   rw [if_neg c6] at H
   have c6b0 : decide ((rd l1 x9_1) < 0) = false := decide_eq_false c6
   clear c6
   by_cases c7 : (rd l1 x9_1) ≥ a0
   ·rw [if_pos c7] at H
    have c7b0 : decide (a0 ≤ (rd l1 x9_1)) = true := decide_eq_true c7
    clear c7
    obtain rfl := Option.some.inj H
    have p375 : 0 ≤ (x9_1 : Int) := of_decide_eq_true aM
    have q375 : x9_1 < (l1.length : Int) := of_decide_eq_true aM
    obtain ⟨ad375, e375, hx375_0⟩ := Kd.at_int HR1.out x9_1 p375 q375
    cases e375
    replace p375 := eq_true p375
    replace q375 := eq_true q375
    go_wp2
    go_ret
    exact ⟨by first | rfl | (simp; done) | (simp [*]; done), by repeat (first | exact Drawn0.refl _ | apply Drawn0.step)⟩
   rw [if_neg c7] at H
   have c7b0 : decide (a0 ≤ (rd l1 x9_1)) = false := decide_eq_false c7
   clear c7
   have H' := Aside0.mk H
   clear H
   have p375 : 0 ≤ (x9_1 : Int) := of_decide_eq_true aM
   have q375 : x9_1 < (l1.length : Int) := of_decide_eq_true aM
   obtain ⟨ad375, e375, hx375_0⟩ := Kd.at_int HR1.out x9_1 p375 q375
   cases e375
   replace p375 := eq_true p375
   replace q375 := eq_true q375
   go_wp2
   go_roundg k1
   case measure => have := HK1.out; omega
   case rel => exact ⟨(wrap64 (x9_1 + 1)), (by first | rfl | (simp; done) | (simp [*]; done)), H', ⟨by have := HK1.out; omega⟩, by repeat (first | exact Drawn0.refl _ | apply Drawn0.step)⟩
/-! ### head_Right: function 77 -/
def head_Right.f (k : Nat) (a0_0 : Int) (a0_1 : Int) (a0_2 : Int) (a0_3 : Int) (a0_4 : Int) : Option (Bool) := if a0_0 ≥ 1 then (if a0_0 < 5 then ((head_within.f k 256 (([a0_1] : List Int))).bind fun t380 => (if t380 = true then ((head_within.f k 65536 (([a0_2] : List Int))).bind fun t384 => (if t384 = true then ((head_within.f k 4096 (([a0_3, a0_4] : List Int))).bind fun t388 => (some t388)) else (some false))) else (some false))) else (some false)) else (some false)
theorem head_Right.mono : ∀ a0 a1 a2 a3 a4 k, LeO (head_Right.f k a0 a1 a2 a3 a4) (head_Right.f (k + 1) a0 a1 a2 a3 a4) := by
 intro a0 a1 a2 a3 a4 k
 unfold head_Right.f
 repeat' first
   | (with_reducible exact head_within.mono _ _ _)
   | (with_reducible exact LeO.refl _)
   | (with_reducible exact LeO.none _)
   | (with_reducible refine LeO.ite ?_ ?_)
   | (with_reducible refine LeO.bind ?_ (fun _ => ?_))
   | exact head_within.mono _ _ _
   | exact LeO.none _
   | refine LeO.ite ?_ ?_
   | refine LeO.bind ?_ (fun _ => ?_)
set_option maxHeartbeats 8000000 in
set_option maxRecDepth 100000 in
theorem head_Right.calls (k : Nat) (a0_0 : Int) (a0_1 : Int) (a0_2 : Int) (a0_3 : Int) (a0_4 : Int) (r : Bool) (w : World) (h : head_Right.f k a0_0 a0_1 a0_2 a0_3 a0_4 = some r) :
  Calls Try.prog 77 #[.agg #[.int .i64 a0_0, .int .i64 a0_1, .int .i64 a0_2, .int .i64 a0_3, .int .i64 a0_4]] w fun e w' => e = .returned (.bool r) ∧ Below w.heap.size w w' := by
 have hu65 := Try.underlying65
 have HB := as_ (Below.refl w.heap.size w)
 have H : (if a0_0 ≥ 1 then (if a0_0 < 5 then ((head_within.f k 256 (([a0_1] : List Int))).bind fun t380 => (if t380 = true then ((head_within.f k 65536 (([a0_2] : List Int))).bind fun t384 => (if t384 = true then ((head_within.f k 4096 (([a0_3, a0_4] : List Int))).bind fun t388 => (some t388)) else (some false))) else (some false))) else (some false)) else (some false)) = some r := h
 clear h
 by_cases c2 : a0_0 ≥ 1
 rotate_left
 ·rw [if_neg c2] at H
  have c2b0 : decide (1 ≤ a0_0) = false := decide_eq_false c2
  clear c2
  obtain rfl := Option.some.inj H
  go_enter Try.func77, Try.ntmps77
  go_wp2_with (first | ((with_reducible refine gate_dst (N := 1) rfl ?_); (try (refine gate_guard (by rfl) ?_; dsimp only)); refine box_event (by rfl) (N := 1) (by rfl) (cs := #[.int .i64 a0_0, .int .i64 a0_1, .int .i64 a0_2, .int .i64 a0_3, .int .i64 a0_4]) (t := 65) gS ?_; intro gb376 hg w38 hbox hb; have BK376 := as_ (hbox); have GW376 := gw hg bA; have GE376 := gw hg bA; replace HB := as_ (below_step bA hb); clear hb hbox hg; obtain ⟨hcz39_0, hcz39_1, hcz39_2, hcz39_3, hcz39_4⟩ := zc5 BK376; obtain ⟨hfz39_0, hfz39_1, hfz39_2, hfz39_3, hfz39_4⟩ := zf5 BK376))
  go_ret
  exact ⟨eW, by repeat (first | (with_reducible first | exact HB.out | apply below_alloc | apply pw_below_drewN | apply below_drew1 | refine below_set ?_ GE376.out) | exact HB.out)⟩
 
 rw [if_pos c2] at H
 have c2b0 : decide (1 ≤ a0_0) = true := decide_eq_true c2
 clear c2
 by_cases c3 : a0_0 < 5
 rotate_left
 ·rw [if_neg c3] at H
  have c3b0 : decide (a0_0 < 5) = false := decide_eq_false c3
  clear c3
  obtain rfl := Option.some.inj H
  go_enter Try.func77, Try.ntmps77
  go_wp2_with (first | ((with_reducible refine gate_dst (N := 1) rfl ?_); (try (refine gate_guard (by rfl) ?_; dsimp only)); refine box_event (by rfl) (N := 1) (by rfl) (cs := #[.int .i64 a0_0, .int .i64 a0_1, .int .i64 a0_2, .int .i64 a0_3, .int .i64 a0_4]) (t := 65) gS ?_; intro gb376 hg w36 hbox hb; have BK376 := as_ (hbox); have GW376 := gw hg bA; have GE376 := gw hg bA; replace HB := as_ (below_step bA hb); clear hb hbox hg; obtain ⟨hcz37_0, hcz37_1, hcz37_2, hcz37_3, hcz37_4⟩ := zc5 BK376; obtain ⟨hfz37_0, hfz37_1, hfz37_2, hfz37_3, hfz37_4⟩ := zf5 BK376))
  go_ret
  exact ⟨eW, by repeat (first | (with_reducible first | exact HB.out | apply below_alloc | apply pw_below_drewN | apply below_drew1 | refine below_set ?_ GE376.out) | exact HB.out)⟩
 rw [if_pos c3] at H
 have c3b0 : decide (a0_0 < 5) = true := decide_eq_true c3
 clear c3
 obtain ⟨y377, hy377⟩ : ∃ y_ : List Int, y_ = (([a0_1] : List Int)) := ⟨_, rfl⟩
 replace H : ((head_within.f k 256 y377).bind fun t380 => (if t380 = true then ((head_within.f k 65536 (([a0_2] : List Int))).bind fun t384 => (if t384 = true then ((head_within.f k 4096 (([a0_3, a0_4] : List Int))).bind fun t388 => (some t388)) else (some false))) else (some false))) = some r := by first | (rw [hy377]; with_reducible exact H) | (have H2_ := (Option.bind_some _ _).symm.trans H; rw [hy377]; with_reducible exact H2_) | (have H2_ := (Option.bind_some _ _).symm.trans H; with_reducible exact H2_) | with_reducible exact H | (rw [hy377]; exact H) | exact H
 have Ny377 := Aside0.mk hy377
 clear hy377
 replace H := bM H
 obtain ⟨t380, A40, H⟩ := H
 replace H : (if t380 = true then ((head_within.f k 65536 (([a0_2] : List Int))).bind fun t384 => (if t384 = true then ((head_within.f k 4096 (([a0_3, a0_4] : List Int))).bind fun t388 => (some t388)) else (some false))) else (some false)) = some r := H
 have A4 := Aside0.mk A40
 clear A40
 by_cases c5 : t380 = true
 rotate_left
 ·replace c5 := Bool.eq_false_iff.mpr c5
  subst c5
  have H1 : (some false) = some r := by rw [if_neg (show ¬ (false = true) by decide)] at H; exact H
  clear H
  have H := H1
  clear H1
  obtain rfl := Option.some.inj H
  go_enter Try.func77, Try.ntmps77
  go_wp2_with (first | ((with_reducible refine gate_dst (N := 1) rfl ?_); (try (refine gate_guard (by rfl) ?_; dsimp only)); refine box_event (by rfl) (N := 1) (by rfl) (cs := #[.int .i64 a0_0, .int .i64 a0_1, .int .i64 a0_2, .int .i64 a0_3, .int .i64 a0_4]) (t := 65) gS ?_; intro gb376 hg w31 hbox hb; have BK376 := as_ (hbox); have GW376 := gw hg bA; have GE376 := gw hg bA; replace HB := as_ (below_step bA hb); clear hb hbox hg; obtain ⟨hcz32_0, hcz32_1, hcz32_2, hcz32_3, hcz32_4⟩ := zc5 BK376; obtain ⟨hfz32_0, hfz32_1, hfz32_2, hfz32_3, hfz32_4⟩ := zf5 BK376) | ((with_reducible refine gate_dst (N := 14) rfl ?_); (try (refine gate_guard (by rfl) ?_; dsimp only)); refine Kd.R_lit (Kd.int .i64) _ 3 ?hg (N := 14) ?hd (xs := ([a0_1] : List Int)) (inner := [.int .i64 a0_1]) (ok := fun _ => True) (okp := fun _ => True) ?hr ?hp (fun _ hk => hk) trivial (Below.refl _ _) (Nat.le_refl _) (by simp) ?_; (case hd => rfl); (case hg => rfl); (case hr => first | (go_simp; done) | (go_simp; rfl)); (case hp => exact (Reps.one (show Kd.M (Kd.int .i64) _ _ _ a0_1 [.int .i64 a0_1] from rfl) (Reps.none _ _))); intro v378 w33 ho34 hb hg_ hnew_; clear hg_ hnew_; (first | rw [← Ny377.out] at ho34 | (simp only [Int.reduceToNat] at ho34; rw [← Ny377.out] at ho34)); have HO379 := as_ (Kd.R_lower ho34 (below_size bA)); replace BK376 := bb BK376 hb; replace HB := as_ (below_step bA hb); clear hb ho34; obtain ⟨Ao35, co35, eo35⟩ := Kd.R_slice HO379.out; subst eo35) | (go_at_call 93; (with_reducible refine (head_within.calls k 256 _ _ y377 false _ ?side1 ?side2 A4.out).mono ?_); (case side1 => repeat (first | exact (Kd.R_reads' HO379.out).2.2 | (with_reducible refine Kd.C_alloc ?_ _) | (with_reducible refine Kd.C_drewN ?_ _) | (with_reducible refine Kd.C_drew ?_))); (case side2 => exact (Kd.R_reads' HO379.out).2.1); rintro e w' ⟨rfl, ⟨nd, rfl⟩⟩))
  go_ret
  exact ⟨eW, by repeat (first | (with_reducible first | exact HB.out | apply below_alloc | apply pw_below_drewN | apply below_drew1 | refine below_set ?_ GE376.out) | exact HB.out)⟩
 subst c5
 have H1 : ((head_within.f k 65536 (([a0_2] : List Int))).bind fun t384 => (if t384 = true then ((head_within.f k 4096 (([a0_3, a0_4] : List Int))).bind fun t388 => (some t388)) else (some false))) = some r := by rw [if_pos rfl] at H; exact H
 clear H
 have H := H1
 clear H1
 obtain ⟨y381, hy381⟩ : ∃ y_ : List Int, y_ = (([a0_2] : List Int)) := ⟨_, rfl⟩
 replace H : ((head_within.f k 65536 y381).bind fun t384 => (if t384 = true then ((head_within.f k 4096 (([a0_3, a0_4] : List Int))).bind fun t388 => (some t388)) else (some false))) = some r := by first | (rw [hy381]; with_reducible exact H) | (have H2_ := (Option.bind_some _ _).symm.trans H; rw [hy381]; with_reducible exact H2_) | (have H2_ := (Option.bind_some _ _).symm.trans H; with_reducible exact H2_) | with_reducible exact H | (rw [hy381]; exact H) | exact H
 have Ny381 := Aside0.mk hy381
 clear hy381
 replace H := bM H
 obtain ⟨t384, A60, H⟩ := H
 replace H : (if t384 = true then ((head_within.f k 4096 (([a0_3, a0_4] : List Int))).bind fun t388 => (some t388)) else (some false)) = some r := H
 have A6 := Aside0.mk A60
 clear A60
 by_cases c7 : t384 = true
 rotate_left
 ·replace c7 := Bool.eq_false_iff.mpr c7
  subst c7
  have H1 : (some false) = some r := by rw [if_neg (show ¬ (false = true) by decide)] at H; exact H
  clear H
  have H := H1
  clear H1
  obtain rfl := Option.some.inj H
  go_enter Try.func77, Try.ntmps77
  go_wp2_with (first | ((with_reducible refine gate_dst (N := 1) rfl ?_); (try (refine gate_guard (by rfl) ?_; dsimp only)); refine box_event (by rfl) (N := 1) (by rfl) (cs := #[.int .i64 a0_0, .int .i64 a0_1, .int .i64 a0_2, .int .i64 a0_3, .int .i64 a0_4]) (t := 65) gS ?_; intro gb376 hg w22 hbox hb; have BK376 := as_ (hbox); have GW376 := gw hg bA; have GE376 := gw hg bA; replace HB := as_ (below_step bA hb); clear hb hbox hg; obtain ⟨hcz23_0, hcz23_1, hcz23_2, hcz23_3, hcz23_4⟩ := zc5 BK376; obtain ⟨hfz23_0, hfz23_1, hfz23_2, hfz23_3, hfz23_4⟩ := zf5 BK376) | ((with_reducible refine gate_dst (N := 14) rfl ?_); (try (refine gate_guard (by rfl) ?_; dsimp only)); refine Kd.R_lit (Kd.int .i64) _ 3 ?hg (N := 14) ?hd (xs := ([a0_1] : List Int)) (inner := [.int .i64 a0_1]) (ok := fun _ => True) (okp := fun _ => True) ?hr ?hp (fun _ hk => hk) trivial (Below.refl _ _) (Nat.le_refl _) (by simp) ?_; (case hd => rfl); (case hg => rfl); (case hr => first | (go_simp; done) | (go_simp; rfl)); (case hp => exact (Reps.one (show Kd.M (Kd.int .i64) _ _ _ a0_1 [.int .i64 a0_1] from rfl) (Reps.none _ _))); intro v378 w24 ho25 hb hg_ hnew_; clear hg_ hnew_; (first | rw [← Ny377.out] at ho25 | (simp only [Int.reduceToNat] at ho25; rw [← Ny377.out] at ho25)); have HO379 := as_ (Kd.R_lower ho25 (below_size bA)); replace BK376 := bb BK376 hb; replace HB := as_ (below_step bA hb); clear hb ho25; obtain ⟨Ao26, co26, eo26⟩ := Kd.R_slice HO379.out; subst eo26) | (go_at_call 93; (with_reducible refine (head_within.calls k 256 _ _ y377 true _ ?side1 ?side2 A4.out).mono ?_); (case side1 => repeat (first | exact (Kd.R_reads' HO379.out).2.2 | (with_reducible refine Kd.C_alloc ?_ _) | (with_reducible refine Kd.C_drewN ?_ _) | (with_reducible refine Kd.C_drew ?_))); (case side2 => exact (Kd.R_reads' HO379.out).2.1); rintro e w' ⟨rfl, ⟨nd, rfl⟩⟩; obtain ⟨hcz27_0, hcz27_1, hcz27_2, hcz27_3, hcz27_4⟩ := zc5 BK376; obtain ⟨hfz27_0, hfz27_1, hfz27_2, hfz27_3, hfz27_4⟩ := zf5 BK376) | ((with_reducible refine gate_dst (N := 20) rfl ?_); (try (refine gate_guard (by rfl) ?_; dsimp only)); refine Kd.R_lit (Kd.int .i64) _ 3 ?hg (N := 20) ?hd (xs := ([a0_2] : List Int)) (inner := [.int .i64 a0_2]) (ok := fun _ => True) (okp := fun _ => True) ?hr ?hp (fun _ hk => hk) trivial (Below.refl _ _) (Nat.le_refl _) (by simp) ?_; (case hd => rfl); (case hg => rfl); (case hr => first | (go_simp; done) | (go_simp; rfl)); (case hp => exact (Reps.one (show Kd.M (Kd.int .i64) _ _ _ a0_2 [.int .i64 a0_2] from rfl) (Reps.none _ _))); intro v382 w28 ho29 hb hg_ hnew_; clear hg_ hnew_; (first | rw [← Ny381.out] at ho29 | (simp only [Int.reduceToNat] at ho29; rw [← Ny381.out] at ho29)); have HO383 := as_ (Kd.R_lower (Kd.R_new' ho29 (Kd.R_lt (by (with_reducible repeat (first | apply Kd.R_alloc | apply Kd.R_drewN | apply Kd.R_drew)); exact HO379.out))) (below_size bA)); replace HO379 := as_ (Kd.R_elder' (by (with_reducible repeat (first | apply Kd.R_alloc | apply Kd.R_drewN | apply Kd.R_drew)); exact HO379.out) (Kd.R_base ho29) hb); replace BK376 := bb BK376 hb; replace HB := as_ (below_step bA hb); clear hb ho29; obtain ⟨Ao30, co30, eo30⟩ := Kd.R_slice HO383.out; subst eo30) | (go_at_call 93; (with_reducible refine (head_within.calls k 65536 _ _ y381 false _ ?side1 ?side2 A6.out).mono ?_); (case side1 => repeat (first | exact (Kd.R_reads' HO383.out).2.2 | (with_reducible refine Kd.C_alloc ?_ _) | (with_reducible refine Kd.C_drewN ?_ _) | (with_reducible refine Kd.C_drew ?_))); (case side2 => exact (Kd.R_reads' HO383.out).2.1); rintro e w' ⟨rfl, ⟨nd, rfl⟩⟩))
  go_ret
  exact ⟨eW, by repeat (first | (with_reducible first | exact HB.out | apply below_alloc | apply pw_below_drewN | apply below_drew1 | refine below_set ?_ GE376.out) | exact HB.out)⟩
 subst c7
 have H1 : ((head_within.f k 4096 (([a0_3, a0_4] : List Int))).bind fun t388 => (some t388)) = some r := by rw [if_pos rfl] at H; exact H
 clear H
 have H := H1
 clear H1
 obtain ⟨y385, hy385⟩ : ∃ y_ : List Int, y_ = (([a0_3, a0_4] : List Int)) := ⟨_, rfl⟩
 replace H : ((head_within.f k 4096 y385).bind fun t388 => (some t388)) = some r := by first | (rw [hy385]; with_reducible exact H) | (have H2_ := (Option.bind_some _ _).symm.trans H; rw [hy385]; with_reducible exact H2_) | (have H2_ := (Option.bind_some _ _).symm.trans H; with_reducible exact H2_) | with_reducible exact H | (rw [hy385]; exact H) | exact H
 have Ny385 := Aside0.mk hy385
 clear hy385
 replace H := bM H
 obtain ⟨t388, A80, H⟩ := H
 replace H : (some t388) = some r := H
 have A8 := Aside0.mk A80
 clear A80
 obtain rfl := Option.some.inj H
 go_enter Try.func77, Try.ntmps77
 go_wp2_with (first | ((with_reducible refine gate_dst (N := 1) rfl ?_); (try (refine gate_guard (by rfl) ?_; dsimp only)); refine box_event (by rfl) (N := 1) (by rfl) (cs := #[.int .i64 a0_0, .int .i64 a0_1, .int .i64 a0_2, .int .i64 a0_3, .int .i64 a0_4]) (t := 65) gS ?_; intro gb376 hg w9 hbox hb; have BK376 := as_ (hbox); have GW376 := gw hg bA; have GE376 := gw hg bA; replace HB := as_ (below_step bA hb); clear hb hbox hg; obtain ⟨hcz10_0, hcz10_1, hcz10_2, hcz10_3, hcz10_4⟩ := zc5 BK376; obtain ⟨hfz10_0, hfz10_1, hfz10_2, hfz10_3, hfz10_4⟩ := zf5 BK376) | ((with_reducible refine gate_dst (N := 14) rfl ?_); (try (refine gate_guard (by rfl) ?_; dsimp only)); refine Kd.R_lit (Kd.int .i64) _ 3 ?hg (N := 14) ?hd (xs := ([a0_1] : List Int)) (inner := [.int .i64 a0_1]) (ok := fun _ => True) (okp := fun _ => True) ?hr ?hp (fun _ hk => hk) trivial (Below.refl _ _) (Nat.le_refl _) (by simp) ?_; (case hd => rfl); (case hg => rfl); (case hr => first | (go_simp; done) | (go_simp; rfl)); (case hp => exact (Reps.one (show Kd.M (Kd.int .i64) _ _ _ a0_1 [.int .i64 a0_1] from rfl) (Reps.none _ _))); intro v378 w11 ho12 hb hg_ hnew_; clear hg_ hnew_; (first | rw [← Ny377.out] at ho12 | (simp only [Int.reduceToNat] at ho12; rw [← Ny377.out] at ho12)); have HO379 := as_ (Kd.R_lower ho12 (below_size bA)); replace BK376 := bb BK376 hb; replace HB := as_ (below_step bA hb); clear hb ho12; obtain ⟨Ao13, co13, eo13⟩ := Kd.R_slice HO379.out; subst eo13) | (go_at_call 93; (with_reducible refine (head_within.calls k 256 _ _ y377 true _ ?side1 ?side2 A4.out).mono ?_); (case side1 => repeat (first | exact (Kd.R_reads' HO379.out).2.2 | (with_reducible refine Kd.C_alloc ?_ _) | (with_reducible refine Kd.C_drewN ?_ _) | (with_reducible refine Kd.C_drew ?_))); (case side2 => exact (Kd.R_reads' HO379.out).2.1); rintro e w' ⟨rfl, ⟨nd, rfl⟩⟩; obtain ⟨hcz14_0, hcz14_1, hcz14_2, hcz14_3, hcz14_4⟩ := zc5 BK376; obtain ⟨hfz14_0, hfz14_1, hfz14_2, hfz14_3, hfz14_4⟩ := zf5 BK376) | ((with_reducible refine gate_dst (N := 20) rfl ?_); (try (refine gate_guard (by rfl) ?_; dsimp only)); refine Kd.R_lit (Kd.int .i64) _ 3 ?hg (N := 20) ?hd (xs := ([a0_2] : List Int)) (inner := [.int .i64 a0_2]) (ok := fun _ => True) (okp := fun _ => True) ?hr ?hp (fun _ hk => hk) trivial (Below.refl _ _) (Nat.le_refl _) (by simp) ?_; (case hd => rfl); (case hg => rfl); (case hr => first | (go_simp; done) | (go_simp; rfl)); (case hp => exact (Reps.one (show Kd.M (Kd.int .i64) _ _ _ a0_2 [.int .i64 a0_2] from rfl) (Reps.none _ _))); intro v382 w15 ho16 hb hg_ hnew_; clear hg_ hnew_; (first | rw [← Ny381.out] at ho16 | (simp only [Int.reduceToNat] at ho16; rw [← Ny381.out] at ho16)); have HO383 := as_ (Kd.R_lower (Kd.R_new' ho16 (Kd.R_lt (by (with_reducible repeat (first | apply Kd.R_alloc | apply Kd.R_drewN | apply Kd.R_drew)); exact HO379.out))) (below_size bA)); replace HO379 := as_ (Kd.R_elder' (by (with_reducible repeat (first | apply Kd.R_alloc | apply Kd.R_drewN | apply Kd.R_drew)); exact HO379.out) (Kd.R_base ho16) hb); replace BK376 := bb BK376 hb; replace HB := as_ (below_step bA hb); clear hb ho16; obtain ⟨Ao17, co17, eo17⟩ := Kd.R_slice HO383.out; subst eo17) | (go_at_call 93; (with_reducible refine (head_within.calls k 65536 _ _ y381 true _ ?side1 ?side2 A6.out).mono ?_); (case side1 => repeat (first | exact (Kd.R_reads' HO383.out).2.2 | (with_reducible refine Kd.C_alloc ?_ _) | (with_reducible refine Kd.C_drewN ?_ _) | (with_reducible refine Kd.C_drew ?_))); (case side2 => exact (Kd.R_reads' HO383.out).2.1); rintro e w' ⟨rfl, ⟨nd, rfl⟩⟩; obtain ⟨hcz18_0, hcz18_1, hcz18_2, hcz18_3, hcz18_4⟩ := zc5 BK376; obtain ⟨hfz18_0, hfz18_1, hfz18_2, hfz18_3, hfz18_4⟩ := zf5 BK376) | ((with_reducible refine gate_dst (N := 28) rfl ?_); (try (refine gate_guard (by rfl) ?_; dsimp only)); refine Kd.R_lit (Kd.int .i64) _ 3 ?hg (N := 28) ?hd (xs := ([a0_3, a0_4] : List Int)) (inner := [.int .i64 a0_3, .int .i64 a0_4]) (ok := fun _ => True) (okp := fun _ => True) ?hr ?hp (fun _ hk => hk) trivial (Below.refl _ _) (Nat.le_refl _) (by simp) ?_; (case hd => rfl); (case hg => rfl); (case hr => first | (go_simp; done) | (go_simp; rfl)); (case hp => exact (Reps.one (show Kd.M (Kd.int .i64) _ _ _ a0_3 [.int .i64 a0_3] from rfl) (Reps.one (show Kd.M (Kd.int .i64) _ _ _ a0_4 [.int .i64 a0_4] from rfl) (Reps.none _ _)))); intro v386 w19 ho20 hb hg_ hnew_; clear hg_ hnew_; (first | rw [← Ny385.out] at ho20 | (simp only [Int.reduceToNat] at ho20; rw [← Ny385.out] at ho20)); have HO387 := as_ (Kd.R_lower (Kd.R_new' (Kd.R_new' ho20 (Kd.R_lt (by (with_reducible repeat (first | apply Kd.R_alloc | apply Kd.R_drewN | apply Kd.R_drew)); exact HO379.out))) (Kd.R_lt (by (with_reducible repeat (first | apply Kd.R_alloc | apply Kd.R_drewN | apply Kd.R_drew)); exact HO383.out))) (below_size bA)); replace HO379 := as_ (Kd.R_elder' (by (with_reducible repeat (first | apply Kd.R_alloc | apply Kd.R_drewN | apply Kd.R_drew)); exact HO379.out) (Kd.R_base ho20) hb); replace HO383 := as_ (Kd.R_elder' (by (with_reducible repeat (first | apply Kd.R_alloc | apply Kd.R_drewN | apply Kd.R_drew)); exact HO383.out) (Kd.R_base ho20) hb); replace BK376 := bb BK376 hb; replace HB := as_ (below_step bA hb); clear hb ho20; obtain ⟨Ao21, co21, eo21⟩ := Kd.R_slice HO387.out; subst eo21) | (go_at_call 93; (with_reducible refine (head_within.calls k 4096 _ _ y385 t388 _ ?side1 ?side2 A8.out).mono ?_); (case side1 => repeat (first | exact (Kd.R_reads' HO387.out).2.2 | (with_reducible refine Kd.C_alloc ?_ _) | (with_reducible refine Kd.C_drewN ?_ _) | (with_reducible refine Kd.C_drew ?_))); (case side2 => exact (Kd.R_reads' HO387.out).2.1); rintro e w' ⟨rfl, ⟨nd, rfl⟩⟩))
 go_ret
 exact ⟨eW, by repeat (first | (with_reducible first | exact HB.out | apply below_alloc | apply pw_below_drewN | apply below_drew1 | refine below_set ?_ GE376.out) | exact HB.out)⟩
/-! ### head_may: function 57, by hand -/
theorem eq_code (c d : Int) (W : World) : (binOp .eql 79 (.iface 42 (.int .i64 c)) (.iface 42 (.int .i64 d))).run Try.prog W = .ok (.bool (c == d)) W := by
 have hi : Try.prog.underlying 79 = some (.interface (Try.prog.methodsAt 79)) := by kernel_rfl
 have hp : Try.prog.underlying 42 = some (.int .i64) := by kernel_rfl
 obtain ⟨i, hinfo, hcomp⟩ : ∃ i, Try.prog.info? 42 = some i ∧ i.comparable = true := by
  have h : (Try.prog.info? 42).map (·.comparable) = some true := by kernel_rfl
  cases h' : Try.prog.info? 42 with
  | none => rw [h'] at h; cases h
  | some i => rw [h'] at h; exact ⟨i, rfl, by injection h⟩
 have h : ∀ n : Nat, (Op.equalIn (n + 2) 79 (.iface 42 (.int .i64 c)) (.iface 42 (.int .i64 d))).run Try.prog W = .ok (c == d) W := fun n => by
  simp [Op.equalIn, run_underlying hi, run_underlying hp, typeInfo, hinfo, hcomp]
 simp only [binOp]
 simp [Op.equal, Op.maxDepth, h 9998]
theorem eq_other (t : TypeId) (v : Value) (d : Int) (W : World) (ht : t ≠ 42) : (binOp .eql 79 (.iface t v) (.iface 42 (.int .i64 d))).run Try.prog W = .ok (.bool false) W := by
 have hi : Try.prog.underlying 79 = some (.interface (Try.prog.methodsAt 79)) := by kernel_rfl
 have h : ∀ n : Nat, (Op.equalIn (n + 2) 79 (.iface t v) (.iface 42 (.int .i64 d))).run Try.prog W = .ok false W := fun n => by
  simp [Op.equalIn, run_underlying hi, ht]
 simp only [binOp]
 simp [Op.equal, Op.maxDepth, h 9998]
theorem least_cons (s : String) (r : List String) : (Instr.least (s :: r)).isSome = true := rfl
theorem missing_some (want : Array (String × TypeId)) (got : Array Method) (h : ((want.toList.filter fun (x : String × TypeId) => !got.any fun m => m.name == x.1 && m.sig == x.2).isEmpty) = false) : (Instr.missingMethod want got).isSome = true := by
 unfold Instr.missingMethod
 simp only
 generalize hL : (want.toList.filter fun (x : String × TypeId) => match x with | (name, sig) => !got.any fun m => m.name == name && m.sig == sig) = L
 have hL' : L.isEmpty = false := by rw [← hL]; exact h
 cases L with
 | nil => simp at hL'
 | cons a r =>
  simp only [List.map_cons, List.partition_eq_filter_filter]
  by_cases hd : a.1.contains '.' = true
  ·simp only [List.filter_cons, hd, if_true, List.map_cons]
   cases Instr.least _ <;> rfl
  simp only [Bool.not_eq_true] at hd
  simp only [List.filter_cons, Function.comp, hd, Bool.not_false, if_true]
  rfl
theorem assert_not (t T x : TypeId) (v : Value) (W : World) (h : (match Try.prog.underlying T, Try.prog.info? t with | some (.interface want), some i => !((want.toList.filter fun (x : String × TypeId) => !i.methods.any fun m => m.name == x.1 && m.sig == x.2).isEmpty) | _, _ => false) = true) (hz : (zeroValue T).run Try.prog W = .ok .nilIface W) : (Instr.typeAssert (.iface t v) x T true).run Try.prog W = .ok (.tuple #[.nilIface, .bool false]) W := by
 cases hu : Try.prog.underlying T with
 | none => rw [hu] at h; simp at h
 | some d =>
  cases hi : Try.prog.info? t with
  | none => rw [hu, hi] at h; cases d <;> simp at h
  | some i =>
   rw [hu, hi] at h
   cases d with
   | interface want =>
    have h' := missing_some want i.methods (by simpa only [Bool.not_eq_true'] using h)
    cases hm : Instr.missingMethod want i.methods with
    | none => rw [hm] at h'; cases h'
    | some m => simp [Instr.typeAssert, run_underlying hu, typeInfo, hi, hm, hz, Result.andThen]
   | _ => simp at h
theorem zero_iface (T : TypeId) (W : World) (h : (Try.prog.info? T).map (·.zero) = some (some .nilIface)) : (zeroValue T).run Try.prog W = .ok .nilIface W := by
 cases hi : Try.prog.info? T with
 | none => simp [hi] at h
 | some i =>
  have hz : i.zero = some .nilIface := by simpa [hi] using h
  simp [zeroValue, typeInfo, hi, hz, Result.andThen]
theorem assert_is (t : TypeId) (v : Value) (W : World) (h : (match Try.prog.underlying 131, Try.prog.info? t with | some (.interface want), some i => !((want.toList.filter fun (x : String × TypeId) => !i.methods.any fun m => m.name == x.1 && m.sig == x.2).isEmpty) | _, _ => false) = true) : (Instr.typeAssert (.iface t v) 79 131 true).run Try.prog W = .ok (.tuple #[.nilIface, .bool false]) W := assert_not _ _ _ _ W h (zero_iface _ W (by kernel_rfl))
theorem assert_un (t : TypeId) (v : Value) (W : World) (h : (match Try.prog.underlying 134, Try.prog.info? t with | some (.interface want), some i => !((want.toList.filter fun (x : String × TypeId) => !i.methods.any fun m => m.name == x.1 && m.sig == x.2).isEmpty) | _, _ => false) = true) : (Instr.typeAssert (.iface t v) 79 134 true).run Try.prog W = .ok (.tuple #[.nilIface, .bool false]) W := assert_not _ _ _ _ W h (zero_iface _ W (by kernel_rfl))
theorem assert_uns (t : TypeId) (v : Value) (W : World) (h : (match Try.prog.underlying 136, Try.prog.info? t with | some (.interface want), some i => !((want.toList.filter fun (x : String × TypeId) => !i.methods.any fun m => m.name == x.1 && m.sig == x.2).isEmpty) | _, _ => false) = true) : (Instr.typeAssert (.iface t v) 79 136 true).run Try.prog W = .ok (.tuple #[.nilIface, .bool false]) W := assert_not _ _ _ _ W h (zero_iface _ W (by kernel_rfl))
set_option maxRecDepth 100000 in
set_option maxHeartbeats 4000000 in
theorem is_leaf (t : TypeId) (u : Value) (d : Int) (b : Bool) (w : World) (heq : ∀ W : World, (binOp .eql 79 (.iface t u) (.iface 42 (.int .i64 d))).run Try.prog W = .ok (.bool b) W)
  (h1 : ∀ W : World, (Instr.typeAssert (.iface t u) 79 131 true).run Try.prog W = .ok (.tuple #[.nilIface, .bool false]) W)
  (h2 : ∀ W : World, (Instr.typeAssert (.iface t u) 79 134 true).run Try.prog W = .ok (.tuple #[.nilIface, .bool false]) W)
  (h3 : ∀ W : World, (Instr.typeAssert (.iface t u) 79 136 true).run Try.prog W = .ok (.tuple #[.nilIface, .bool false]) W) :
  Calls Try.prog 90 #[.iface t u, .iface 42 (.int .i64 d), .bool true] w fun e w' => e = .returned (.bool b) ∧ Drawn0 w w' := by
 cases b
 all_goals
  go_enter Try.func90, Try.ntmps90
  go_wp2
  go_loopg [0] 1 (fun kq v0 w' => v0 = .iface t u ∧ w' = w)
  case atStart => exact ⟨rfl, rfl⟩
  case round =>
   obtain ⟨rfl, rfl⟩ := hrel
   go_wp2
   go_ret
   exact ⟨rfl, by repeat (first | exact Drawn0.refl _ | apply Drawn0.step)⟩
theorem is_code (c d : Int) (w : World) : Calls Try.prog 90 #[.iface 42 (.int .i64 c), .iface 42 (.int .i64 d), .bool true] w fun e w' => e = .returned (.bool (c == d)) ∧ Drawn0 w w' :=
 is_leaf _ _ d _ w (eq_code c d) (fun W => assert_is _ _ W (by kernel_rfl)) (fun W => assert_un _ _ W (by kernel_rfl)) (fun W => assert_uns _ _ W (by kernel_rfl))
theorem is_text (u : Value) (d : Int) (w : World) : Calls Try.prog 90 #[.iface 142 u, .iface 42 (.int .i64 d), .bool true] w fun e w' => e = .returned (.bool false) ∧ Drawn0 w w' :=
 is_leaf _ _ d _ w (fun W => eq_other _ _ d W (by decide)) (fun W => assert_is _ _ W (by kernel_rfl)) (fun W => assert_un _ _ W (by kernel_rfl)) (fun W => assert_uns _ _ W (by kernel_rfl))
theorem typeOf_code (u : Value) (W : World) : (callFunc 89 #[.iface 42 u]).run Try.prog W = .ok (.value (.iface 129 (.agg #[typeHandle Try.prog 42]))) W := by
 have hc : (Try.prog.cutTypes.find? (·.1 == "internal/reflectlite.rtype")).map (·.2) = some 129 := by kernel_rfl
 have he : Extern.find Try.f89 = some Extern.ReflectliteType.typeOf := by kernel_rfl
 have hn : Extern.findNext Try.f89 = none := Option.isNone_iff_eq_none.1 (by kernel_rfl)
 rw [run_callFunc_extern Try.func89 (by kernel_rfl) rfl hn he]
 have hct : (cutType "internal/reflectlite.rtype").run Try.prog W = .ok 129 W := by
  unfold cutType
  cases hf : Try.prog.cutTypes.find? (·.1 == "internal/reflectlite.rtype") with
  | none => rw [hf] at hc; cases hc
  | some x =>
   rw [hf] at hc
   injection hc with hc
   simp [hf, hc, Result.andThen]
 have ht : Extern.ReflectliteType.typeOf #[.iface 42 u] = Extern.ReflectliteType.toType 42 := rfl
 rw [ht]
 simp [Extern.ReflectliteType.toType, hct, Extern.Rtype.handle, Result.andThen]
theorem method_val (n : Nat) (t : TypeId) (v : Value) (name : String) (f : FuncId) (q : Bool) (W : World) (h : ((Try.prog.info? t).bind fun i => i.methods.find? (·.name == name)).map (fun m => (m.path.toList.isEmpty, m.func)) = some (true, some (f, q))) (hr : ∀ y : Option String, (receiverAt t (.val v) q y).run Try.prog W = .ok v W) : (method (n + 1) t v name).run Try.prog W = .ok (f, v) W := by
 cases hi : Try.prog.info? t with
 | none => rw [hi] at h; cases h
 | some i =>
  rw [hi] at h
  cases hm : i.methods.find? (·.name == name) with
  | none => simp only [Option.bind_some, hm] at h; cases h
  | some m =>
   simp only [Option.bind_some, hm, Option.map_some, Option.some.injEq, Prod.mk.injEq, List.isEmpty_iff] at h
   obtain ⟨h1, h2⟩ := h
   simp [method, typeInfo, hi, hm, h1, h2, follow, hr, Result.andThen]
theorem receiver_struct (t : TypeId) (v : Value) (W : World) (y : Option String) (h : (match Try.prog.underlying t with | some (.struct _) => true | _ => false) = true) : (receiverAt t (.val v) false y).run Try.prog W = .ok v W := by
 cases hu : Try.prog.underlying t with
 | none => rw [hu] at h; cases h
 | some d =>
  rw [hu] at h
  cases d <;> simp at h
  simp [receiverAt, run_underlying hu, Place.get, Result.andThen]
theorem receiver_ptr (t : TypeId) (v : Value) (W : World) (y : Option String) (h : (match Try.prog.underlying t with | some (.pointer _) => true | _ => false) = true) : (receiverAt t (.val v) true y).run Try.prog W = .ok v W := by
 cases hu : Try.prog.underlying t with
 | none => rw [hu] at h; cases h
 | some d =>
  rw [hu] at h
  cases d <;> simp at h
  simp [receiverAt, run_underlying hu, Place.get, Result.andThen]
theorem comparable_code (n : Nat) (v : Value) (W : World) : (method (n + 1) 129 v "Comparable").run Try.prog W = .ok (120, v) W :=
 method_val n _ v _ _ false W (by kernel_rfl) (fun y => receiver_struct _ v W y (by kernel_rfl))
theorem handle_back (P : Program) (t : TypeId) : handleType P (typeHandle P t) = some t := by simp [handleType, typeHandle]
theorem run_program_ (P : Program) (W : World) : Sem.run P program W = .ok P W := rfl
theorem comparable_any (P : Program) (t : TypeId) (i : TypeInfo) (H : Value) (W : World) (hb : handleType P H = some t) (hp : P.packed t = false) (hh : P.holdsPacked P.depth t = false) (hi : P.info? t = some i) (hc : i.comparable = true) :
  ((Extern.ReflectliteType.method fun t => do Extern.Rtype.noPackHeld "Comparable" t; pure (.bool (← typeInfo t).comparable)) #[.agg #[H]]).run P W = .ok (.bool true) W := by
 have ht : ∀ (G : TypeId → Sem Value) (r : Value), Extern.ReflectliteType.method G #[r] = (do G (← Extern.ReflectliteType.ofRtype r)) := fun _ _ => rfl
 have ho : ∀ (r : Value), Extern.ReflectliteType.ofRtype (.agg #[r]) = (do let t ← Extern.Rtype.ofHandle r; Extern.Rtype.noPack "a Type asked or handed on" t; pure t) := fun _ => rfl
 have h1 : (Extern.Rtype.ofHandle H).run P W = .ok t W := by
  unfold Extern.Rtype.ofHandle
  simp only [Sem.run_bind, run_program_, Result.andThen, hb, Sem.run_pure]
 have h2 : ∀ s, (Extern.Rtype.noPack s t).run P W = .ok () W := by
  intro s
  unfold Extern.Rtype.noPack
  simp only [Sem.run_bind, run_program_, Result.andThen, hp, Bool.false_eq_true, if_false, Sem.run_pure]
 have h3 : ∀ s, (Extern.Rtype.noPackHeld s t).run P W = .ok () W := by
  intro s
  unfold Extern.Rtype.noPackHeld
  simp only [Sem.run_bind, run_program_, Result.andThen, hh, Bool.false_eq_true, if_false, Sem.run_pure]
 have h4 : (typeInfo t).run P W = .ok i W := by simp [typeInfo, hi]
 rw [ht, ho]
 simp only [Sem.run_bind, h1, h2, h3, h4, Result.andThen, Sem.run_pure, hc]
theorem comparable_run (W : World) : (callFunc 120 #[.agg #[typeHandle Try.prog 42]]).run Try.prog W = .ok (.value (.bool true)) W := by
 have he : Extern.find Try.f120 = some (Extern.ReflectliteType.method fun t => do Extern.Rtype.noPackHeld "Comparable" t; pure (.bool (← typeInfo t).comparable)) := by kernel_rfl
 have hn : Extern.findNext Try.f120 = none := Option.isNone_iff_eq_none.1 (by kernel_rfl)
 rw [run_callFunc_extern Try.func120 (by kernel_rfl) rfl hn he]
 have h : (Try.prog.info? 42).map (·.comparable) = some true := by kernel_rfl
 cases hi : Try.prog.info? 42 with
 | none => rw [hi] at h; cases h
 | some i =>
  rw [hi] at h
  rw [comparable_any Try.prog 42 i _ W (handle_back _ _) (by kernel_rfl) (by kernel_rfl) hi (by injection h)]
  rfl
set_option maxRecDepth 100000 in
set_option maxHeartbeats 4000000 in
theorem Is_leaf (t : TypeId) (u : Value) (d : Int) (b : Bool) (w : World) (hn : ∀ W : World, (binOp .eql 79 (.iface t u) .nilIface).run Try.prog W = .ok (.bool false) W) (hn2 : ∀ W : World, (binOp .eql 79 (.iface 42 (.int .i64 d)) .nilIface).run Try.prog W = .ok (.bool false) W)
  (hIs : ∀ W : World, Below w.heap.size w W → Calls Try.prog 90 #[.iface t u, .iface 42 (.int .i64 d), .bool true] W fun e w' => e = .returned (.bool b) ∧ Drawn0 W w') :
  Calls Try.prog 75 #[.iface t u, .iface 42 (.int .i64 d)] w fun e w' => e = .returned (.bool b) ∧ Below w.heap.size w w' := by
 have HB := as_ (Below.refl w.heap.size w)
 have hT := typeOf_code (.int .i64 d)
 have hM := comparable_code
 have hR := comparable_run
 go_enter Try.func75, Try.ntmps75
 go_wp2_with fail
 refine (hIs _ (by repeat (first | exact HB.out | apply below_alloc | apply pw_below_drewN | apply below_drew1))).mono ?_
 rintro e w' ⟨rfl, ⟨nd, rfl⟩⟩
 go_wp2
 go_ret
 exact ⟨rfl, by repeat (first | exact HB.out | apply below_alloc | apply pw_below_drewN | apply below_drew1)⟩
set_option maxRecDepth 100000 in
set_option maxHeartbeats 4000000 in
theorem join_Unwrap (gj : Nat) (v : Value) (w : World) (hj : w.cell? ⟨gj, 0, none⟩ = some v) : Calls Try.prog 130 #[.pointer (some ⟨gj, 0, none⟩)] w fun e w' => e = .returned v ∧ Drawn0 w w' := by
 go_enter Try.func130, Try.ntmps130
 go_wp2
 go_ret
 exact ⟨rfl, by repeat (first | exact Drawn0.refl _ | apply Drawn0.step)⟩
theorem assert_has (t : TypeId) (v : Value) (T x : TypeId) (W : World) (want : Array (String × TypeId)) (i : TypeInfo) (hu : Try.prog.underlying T = some (.interface want)) (hi : Try.prog.info? t = some i) (hm : Instr.missingMethod want i.methods = none) : (Instr.typeAssert (.iface t v) x T true).run Try.prog W = .ok (.tuple #[.iface t v, .bool true]) W := by
 simp [Instr.typeAssert, run_underlying hu, typeInfo, hi, hm, Result.andThen]
theorem missing_none (want : Array (String × TypeId)) (got : Array Method) (h : ((want.toList.filter fun (x : String × TypeId) => !got.any fun m => m.name == x.1 && m.sig == x.2).isEmpty) = true) : Instr.missingMethod want got = none := by
 unfold Instr.missingMethod
 simp only
 generalize hL : (want.toList.filter fun (x : String × TypeId) => match x with | (name, sig) => !got.any fun m => m.name == name && m.sig == sig) = L
 have hL' : L.isEmpty = true := by rw [← hL]; exact h
 cases L with
 | nil => rfl
 | cons a r => cases hL'
theorem unwrap_row (n : Nat) (v : Value) (W : World) : (method (n + 1) 139 v "Unwrap").run Try.prog W = .ok (130, v) W :=
 method_val n _ v _ _ true W (by kernel_rfl) (fun y => receiver_ptr _ v W y (by kernel_rfl))
theorem assert_join (v : Value) (W : World) : (Instr.typeAssert (.iface 139 v) 79 136 true).run Try.prog W = .ok (.tuple #[.iface 139 v, .bool true]) W := by
 have h : (match Try.prog.underlying 136, Try.prog.info? 139 with | some (.interface want), some i => ((want.toList.filter fun (x : String × TypeId) => !i.methods.any fun m => m.name == x.1 && m.sig == x.2).isEmpty) | _, _ => false) = true := by kernel_rfl
 cases hu : Try.prog.underlying 136 with
 | none => rw [hu] at h; simp at h
 | some d =>
  cases hi : Try.prog.info? 139 with
  | none => rw [hu, hi] at h; cases d <;> simp at h
  | some i =>
   rw [hu, hi] at h
   cases d with
   | interface want => exact assert_has _ _ _ _ W want i hu hi (missing_none want i.methods h)
   | _ => simp at h
set_option maxRecDepth 100000 in
set_option maxHeartbeats 4000000 in
theorem is_join (gj ga : Nat) (cap : Nat) (u : Value) (c d : Int) (w : World) (hj : w.cell? ⟨gj, 0, none⟩ = some (.slice (some ⟨ga, 0, none⟩) 2 cap)) (h0 : w.cell? ⟨ga, 0, none⟩ = some (.iface 142 u)) (h1 : w.cell? ⟨ga, 1, none⟩ = some (.iface 42 (.int .i64 c))) :
  Calls Try.prog 90 #[.iface 139 (.pointer (some ⟨gj, 0, none⟩)), .iface 42 (.int .i64 d), .bool true] w fun e w' => e = .returned (.bool (c == d)) ∧ Drawn0 w w' := by
 have heq : ∀ W : World, _ := fun W => eq_other 139 (.pointer (some ⟨gj, 0, none⟩)) d W (by decide)
 have ha1 : ∀ W : World, _ := fun W => assert_is 139 (.pointer (some ⟨gj, 0, none⟩)) W (by kernel_rfl)
 have ha2 : ∀ W : World, _ := fun W => assert_un 139 (.pointer (some ⟨gj, 0, none⟩)) W (by kernel_rfl)
 have ha3 := assert_join (.pointer (some ⟨gj, 0, none⟩))
 have hM := unwrap_row
 go_enter Try.func90, Try.ntmps90
 go_wp2
 go_loopg [0] 1 (fun kq v0 w' => v0 = .iface 139 (.pointer (some ⟨gj, 0, none⟩)) ∧ w' = w)
 case atStart => exact ⟨rfl, rfl⟩
 case round =>
  obtain ⟨rfl, rfl⟩ := hrel
  go_wp2_with fail
  refine (join_Unwrap gj _ _ hj).mono ?_
  rintro e w' ⟨rfl, ⟨nd, rfl⟩⟩
  go_wp2
  go_loopg [45] 3 (fun kq v45 w' => ∃ x45 : Int, v45 = .int .i64 x45 ∧ Aside0 ((x45 = 0 ∧ kq = 3) ∨ (x45 = 1 ∧ kq = 2) ∨ (x45 = 2 ∧ kq = 1 ∧ (c == d) = false)) ∧ Drawn0 wr w')
  case atStart => exact ⟨0, rfl, ⟨.inl ⟨rfl, rfl⟩⟩, ⟨_, rfl⟩⟩
  case round =>
   obtain ⟨x45, rfl, ⟨hc⟩, ⟨nd2, rfl⟩⟩ := hrel
   rcases hc with ⟨rfl, rfl⟩ | ⟨rfl, rfl⟩ | ⟨rfl, rfl, hcd⟩
   ·go_wp2_with fail
    refine (is_text u d _).mono ?_
    rintro e w' ⟨rfl, ⟨nd3, rfl⟩⟩
    go_wp2
    go_roundg 2
    exact ⟨1, rfl, ⟨.inr (.inl ⟨rfl, rfl⟩)⟩, by repeat (first | exact Drawn0.refl _ | apply Drawn0.step)⟩
    omega
   ·go_wp2_with fail
    refine (is_code c d _).mono ?_
    rintro e w' ⟨rfl, ⟨nd3, rfl⟩⟩
    cases hcd : (c == d)
    ·go_wp2
     go_roundg 1
     exact ⟨2, rfl, ⟨.inr (.inr ⟨rfl, rfl, hcd⟩)⟩, by repeat (first | exact Drawn0.refl _ | apply Drawn0.step)⟩
     omega
    ·go_wp2
     go_ret
     exact ⟨by rw [hcd]; rfl, by repeat (first | exact Drawn0.refl _ | apply Drawn0.step)⟩
   ·go_wp2
    go_ret
    exact ⟨by rw [hcd]; rfl, by repeat (first | exact Drawn0.refl _ | apply Drawn0.step)⟩
theorem eq_nil (t : TypeId) (v : Value) (W : World) : (binOp .eql 79 (.iface t v) .nilIface).run Try.prog W = .ok (.bool false) W := by
 have hi : Try.prog.underlying 79 = some (.interface (Try.prog.methodsAt 79)) := by kernel_rfl
 have h : ∀ n : Nat, (Op.equalIn (n + 2) 79 (.iface t v) .nilIface).run Try.prog W = .ok false W := fun n => by
  simp [Op.equalIn, run_underlying hi]
 simp only [binOp]
 simp [Op.equal, Op.maxDepth, h 9998]
theorem eq_nils (W : World) : (binOp .eql 79 .nilIface .nilIface).run Try.prog W = .ok (.bool true) W := by
 have hi : Try.prog.underlying 79 = some (.interface (Try.prog.methodsAt 79)) := by kernel_rfl
 have h : ∀ n : Nat, (Op.equalIn (n + 2) 79 .nilIface .nilIface).run Try.prog W = .ok true W := fun n => by
  simp [Op.equalIn, run_underlying hi]
 simp only [binOp]
 simp [Op.equal, Op.maxDepth, h 9998]
theorem eq_nil' (t : TypeId) (v : Value) (W : World) : (binOp .eql 79 .nilIface (.iface t v)).run Try.prog W = .ok (.bool false) W := by
 have hi : Try.prog.underlying 79 = some (.interface (Try.prog.methodsAt 79)) := by kernel_rfl
 have h : ∀ n : Nat, (Op.equalIn (n + 2) 79 .nilIface (.iface t v)).run Try.prog W = .ok false W := fun n => by
  simp [Op.equalIn, run_underlying hi]
 simp only [binOp]
 simp [Op.equal, Op.maxDepth, h 9998]
set_option maxRecDepth 100000 in
set_option maxHeartbeats 4000000 in
theorem New_calls (s : ByteArray) (w : World) : Calls Try.prog 92 #[.string s] w fun e w' => ∃ u, e = .returned (.iface 142 u) ∧ Below w.heap.size w w' := by
 have HB := as_ (Below.refl w.heap.size w)
 go_enter Try.func92, Try.ntmps92
 go_wp2
 go_ret
 exact ⟨_, rfl, by repeat (first | exact HB.out | apply below_alloc | apply pw_below_drewN | apply below_drew1)⟩
theorem cell_lt {w : World} {a : Addr} {v : Value} (h : w.cell? a = some v) : a.block < w.heap.size := by
 rcases Nat.lt_or_ge a.block w.heap.size with h' | h'
 ·exact h'
 ·simp [World.cell?, Array.getElem?_eq_none h'] at h
theorem make_errs (W : World) : (Instr.makeSlice 137 (.int .i64 0) (.int .i64 2)).run Try.prog W = .ok (.slice (some ⟨W.heap.size, 0, none⟩) 0 2) (W.alloc (.cells #[.nilIface, .nilIface] 79)) := by
 have hu : Try.prog.underlying 137 = some (.slice 79) := by kernel_rfl
 have h : (Try.prog.info? 79).map (fun i => (i.zero, i.size, i.bytes)) = some (some .nilIface, 1, 16) := by kernel_rfl
 cases hi : Try.prog.info? 79 with
 | none => rw [hi] at h; cases h
 | some i =>
  rw [hi] at h
  simp only [Option.map_some, Option.some.injEq, Prod.mk.injEq] at h
  have hr := run_makeSlice (P := Try.prog) (w := W) 137 79 i .nilIface hu hi h.1 .i64 .i64 0 2 (by decide) (by decide) (by rw [h.2.1]; decide) (by rw [h.2.2]; decide) (by decide)
  have hm : madeCells Value.nilIface.cells (Int.toNat 2 * 1) = #[.nilIface, .nilIface] := by kernel_rfl
  rw [hr, h.2.1, hm]
  rfl
set_option maxRecDepth 100000 in
set_option maxHeartbeats 4000000 in
theorem Join_calls (ga : Nat) (u : Value) (c : Int) (w : World) (h0 : w.cell? ⟨ga, 0, none⟩ = some (.iface 142 u)) (h1 : w.cell? ⟨ga, 1, none⟩ = some (.iface 42 (.int .i64 c))) :
  Calls Try.prog 91 #[.slice (some ⟨ga, 0, none⟩) 2 2] w fun e w' => ∃ gj gb cap u2, e = .returned (.iface 139 (.pointer (some ⟨gj, 0, none⟩))) ∧ w'.cell? ⟨gj, 0, none⟩ = some (.slice (some ⟨gb, 0, none⟩) 2 cap) ∧ w'.cell? ⟨gb, 0, none⟩ = some (.iface 142 u2) ∧ w'.cell? ⟨gb, 1, none⟩ = some (.iface 42 (.int .i64 c)) ∧ gj < w'.heap.size ∧ gb < w'.heap.size ∧ Below w.heap.size w w' := by
 have HB := as_ (Below.refl w.heap.size w)
 have hn := eq_nil
 have hmk := make_errs
 go_enter Try.func91, Try.ntmps91
 go_wp2
 go_loopg [3, 11] 3 (fun kq v3 v11 w' => ∃ x11 : Int, v3 = .int .i64 x11 ∧ v11 = .int .i64 x11 ∧ Aside0 ((x11 = 0 ∧ kq = 3) ∨ (x11 = 1 ∧ kq = 2) ∨ (x11 = 2 ∧ kq = 1)) ∧ Drawn0 w w')
 case atStart => exact ⟨0, rfl, rfl, ⟨.inl ⟨rfl, rfl⟩⟩, ⟨0, rfl⟩⟩
 case round =>
  obtain ⟨x11, rfl, rfl, ⟨hc⟩, ⟨nd2, rfl⟩⟩ := hrel
  rcases hc with ⟨rfl, rfl⟩ | ⟨rfl, rfl⟩ | ⟨rfl, rfl⟩
  ·go_wp2
   go_roundg 2
   exact ⟨1, rfl, rfl, ⟨.inr (.inl ⟨rfl, rfl⟩)⟩, by repeat (first | exact Drawn0.refl _ | apply Drawn0.step)⟩
   omega
  ·go_wp2
   go_roundg 1
   exact ⟨2, rfl, rfl, ⟨.inr (.inr ⟨rfl, rfl⟩)⟩, by repeat (first | exact Drawn0.refl _ | apply Drawn0.step)⟩
   omega
  ·go_wp2
   go_loopg [28] 3 (fun kq v28 w' => ∃ x28 : Int, v28 = .int .i64 x28 ∧ Aside0 (Below w.heap.size w w' ∧ w.heap.size + 1 < w'.heap.size ∧ w'.frozen? ⟨w.heap.size, 0, none⟩ = false ∧ w'.frozen? ⟨w.heap.size, 1, none⟩ = false ∧ w'.frozen? ⟨w.heap.size + 1, 0, none⟩ = false) ∧ w'.cell? ⟨ga, 0, none⟩ = some (.iface 142 u) ∧ w'.cell? ⟨ga, 1, none⟩ = some (.iface 42 (.int .i64 c)) ∧
    ((x28 = 0 ∧ kq = 3 ∧ w'.cell? ⟨w.heap.size + 1, 0, none⟩ = some (.slice (some ⟨w.heap.size, 0, none⟩) 0 2) ∧ w'.cell? ⟨w.heap.size, 0, none⟩ = some .nilIface ∧ w'.cell? ⟨w.heap.size, 1, none⟩ = some .nilIface) ∨
     (x28 = 1 ∧ kq = 2 ∧ w'.cell? ⟨w.heap.size + 1, 0, none⟩ = some (.slice (some ⟨w.heap.size, 0, none⟩) 1 2) ∧ w'.cell? ⟨w.heap.size, 0, none⟩ = some (.iface 142 u) ∧ w'.cell? ⟨w.heap.size, 1, none⟩ = some .nilIface) ∨
     (x28 = 2 ∧ kq = 1 ∧ w'.cell? ⟨w.heap.size + 1, 0, none⟩ = some (.slice (some ⟨w.heap.size, 0, none⟩) 2 2) ∧ w'.cell? ⟨w.heap.size, 0, none⟩ = some (.iface 142 u) ∧ w'.cell? ⟨w.heap.size, 1, none⟩ = some (.iface 42 (.int .i64 c)))))
   case atStart =>
    have hb2 : ga < w.heap.size := cell_lt h0
    have hb3 : ga ≠ w.heap.size := Nat.ne_of_lt hb2
    have hb4 : ga ≠ w.heap.size + 1 := by omega
    have hb5 : ga < w.heap.size + 1 := by omega
    refine ⟨0, rfl, ⟨⟨?_, ?_, ?_, ?_, ?_⟩⟩, ?_, ?_, .inl ⟨rfl, rfl, ?_, ?_, ?_⟩⟩
    ·exact Below.alloc (Below.alloc (pw_below_drewN HB.out _) (Nat.le_refl _) _) (by simp) _
    ·simp
    ·simp [go_sem]; exact World.frozen?_alloc_new (w := w.drewN nd2) _ _ _
    ·simp [go_sem]; exact World.frozen?_alloc_new (w := w.drewN nd2) _ _ _
    ·simp [go_sem]
    ·simp [go_sem, *]; exact (World.cell?_alloc_lt (w.drewN nd2) _ _ hb2).trans h0
    ·simp [go_sem, *]; exact (World.cell?_alloc_lt (w.drewN nd2) _ _ hb2).trans h1
    ·simp [go_sem]
    ·simp [go_sem]; exact World.cell?_alloc_new (w := w.drewN nd2) _ _ 0
    ·simp [go_sem]; exact World.cell?_alloc_new (w := w.drewN nd2) _ _ 1
   case round =>
    obtain ⟨x28, rfl, ⟨HB2, hsz, f0, f1, f2⟩, g0, g1, hc⟩ := hrel
    have hb0 : w.heap.size < wr.heap.size := by omega
    have hb2 : ga < wr.heap.size := cell_lt g0
    have hb3 : ga ≠ w.heap.size := Nat.ne_of_lt (cell_lt h0)
    have hb4 : ga ≠ w.heap.size + 1 := by have := cell_lt h0; simp only at this; omega
    have HB3 := Aside0.mk HB2
    clear HB2
    rcases hc with ⟨rfl, rfl, hx, hr0, hr1⟩ | ⟨rfl, rfl, hx, hr0, hr1⟩ | ⟨rfl, rfl, hx, hr0, hr1⟩
    ·go_wp2
     go_roundg 2
     ·refine ⟨1, rfl, ⟨⟨?_, ?_, ?_, ?_, ?_⟩⟩, ?_, ?_, .inr (.inl ⟨rfl, rfl, ?_, ?_, ?_⟩)⟩
      ·exact Below.alloc (Below.setCell (Below.setCell HB3.out (p := ⟨w.heap.size, 0, none⟩) (Nat.le_refl _) _) (p := ⟨w.heap.size + 1, 0, none⟩) (Nat.le_succ _) _) (by simp only [World.size_setCell]; omega) _
      ·simp only [World.size_alloc, World.size_setCell]
       omega
      all_goals
       simp [go_sem, *]
     ·omega
    ·go_wp2
     go_roundg 1
     ·refine ⟨2, rfl, ⟨⟨?_, ?_, ?_, ?_, ?_⟩⟩, ?_, ?_, .inr (.inr ⟨rfl, rfl, ?_, ?_, ?_⟩)⟩
      ·exact Below.alloc (Below.setCell (Below.setCell HB3.out (p := ⟨w.heap.size, 1, none⟩) (Nat.le_refl _) _) (p := ⟨w.heap.size + 1, 0, none⟩) (Nat.le_succ _) _) (by simp only [World.size_setCell]; omega) _
      ·simp only [World.size_alloc, World.size_setCell]
       omega
      all_goals
       simp [go_sem, *]
     ·omega
    ·go_wp2
     go_ret
     exact ⟨w.heap.size + 1, w.heap.size, 2, u, rfl, hx, hr0, hr1, by omega, by omega, HB3.out⟩
set_option maxRecDepth 100000 in
set_option maxHeartbeats 4000000 in
theorem fault_calls (s : ByteArray) (c : Int) (w : World) : Calls Try.prog 76 #[.int .i64 c, .string s] w fun e w' => ∃ gj gb cap u2, e = .returned (.iface 139 (.pointer (some ⟨gj, 0, none⟩))) ∧ w'.cell? ⟨gj, 0, none⟩ = some (.slice (some ⟨gb, 0, none⟩) 2 cap) ∧ w'.cell? ⟨gb, 0, none⟩ = some (.iface 142 u2) ∧ w'.cell? ⟨gb, 1, none⟩ = some (.iface 42 (.int .i64 c)) ∧ gj < w'.heap.size ∧ gb < w'.heap.size ∧ Below w.heap.size w w' := by
 have HB := as_ (Below.refl w.heap.size w)
 go_enter Try.func76, Try.ntmps76
 go_wp2_with fail
 refine (New_calls s _).mono ?_
 rintro e w1 ⟨u, rfl, hb1⟩
 have HB1 := as_ (HB.out.trans hb1)
 clear hb1
 go_wp2_with fail
 refine (Join_calls _ u c _ ?_ ?_).mono ?_
 ·simp [go_sem]
 ·simp [go_sem]
 rintro e w2 ⟨gj, gb, cap, u2, rfl, j1, j2, j3, j4, j5, hb2⟩
 have HB2 := as_ ((Below.alloc HB1.out HB1.out.size _).trans (hb2.mono (by simp; exact Nat.le_succ_of_le HB1.out.size)))
 clear hb2
 go_wp2
 go_ret
 exact ⟨gj, gb, cap, u2, rfl, j1, j2, j3, j4, j5, HB2.out⟩
def Errs (v : Value) (c : Int) (w : World) : Prop := (c = 0 ∧ v = .nilIface) ∨ (c ≠ 0 ∧ ∃ gj gb cap u2, v = .iface 139 (.pointer (some ⟨gj, 0, none⟩)) ∧ w.cell? ⟨gj, 0, none⟩ = some (.slice (some ⟨gb, 0, none⟩) 2 cap) ∧ w.cell? ⟨gb, 0, none⟩ = some (.iface 142 u2) ∧ w.cell? ⟨gb, 1, none⟩ = some (.iface 42 (.int .i64 c)))
theorem Errs.below {v : Value} {c : Int} {w W : World} {n : Nat} (h : Errs v c w) (hn : w.heap.size ≤ n) (hb : Below n w W) : Errs v c W := by
 rcases h with h | ⟨hc, gj, gb, cap, u2, rfl, h1, h2, h3⟩
 ·exact .inl h
 ·have l1 := cell_lt h1
  have l2 := cell_lt h2
  have l3 := cell_lt h3
  exact .inr ⟨hc, gj, gb, cap, u2, rfl, (hb.cell (Nat.lt_of_lt_of_le l1 hn)).trans h1, (hb.cell (Nat.lt_of_lt_of_le l2 hn)).trans h2, (hb.cell (Nat.lt_of_lt_of_le l3 hn)).trans h3⟩
set_option maxRecDepth 100000 in
set_option maxHeartbeats 4000000 in
theorem Is_nil (d : Int) (w : World) : Calls Try.prog 75 #[.nilIface, .iface 42 (.int .i64 d)] w fun e w' => e = .returned (.bool false) ∧ Below w.heap.size w w' := by
 have HB := as_ (Below.refl w.heap.size w)
 have h1 := eq_nil' 42 (.int .i64 d)
 have h2 := eq_nils
 go_enter Try.func75, Try.ntmps75
 go_wp2
 go_ret
 exact ⟨rfl, by repeat (first | exact HB.out | apply below_alloc | apply pw_below_drewN | apply below_drew1)⟩
theorem Is_any (v : Value) (c d : Int) (hd : d ≠ 0) (w : World) (h : Errs v c w) : Calls Try.prog 75 #[v, .iface 42 (.int .i64 d)] w fun e w' => e = .returned (.bool (c == d)) ∧ Below w.heap.size w w' := by
 rcases h with ⟨rfl, rfl⟩ | ⟨hc, gj, gb, cap, u2, rfl, h1, h2, h3⟩
 ·have hf : ((0 : Int) == d) = false := by simpa using fun h => hd h.symm
  rw [hf]
  exact Is_nil d w
 ·refine Is_leaf _ _ d _ w (eq_nil _ _) (eq_nil _ _) (fun W hb => ?_)
  exact is_join gj gb cap u2 c d W ((hb.cell (cell_lt h1)).trans h1) ((hb.cell (cell_lt h2)).trans h2) ((hb.cell (cell_lt h3)).trans h3)
set_option maxRecDepth 100000 in
set_option maxHeartbeats 4000000 in
theorem number_calls (v : Value) (c : Int) (hc : c = 0 ∨ c = 4 ∨ c = 3 ∨ c = 8) (w : World) (h : Errs v c w) : Calls Try.prog 56 #[v] w fun e w' => e = .returned (.int .i64 c) ∧ Below w.heap.size w w' := by
 have HB := as_ (Below.refl w.heap.size w)
 go_enter Try.func56, Try.ntmps56
 go_wp2
 go_loopg [7] 4 (fun kq v7 w' => ∃ x7 : Int, v7 = .int .i64 x7 ∧ Aside0 (Below w.heap.size w w' ∧ Errs v c w') ∧ w'.cell? ⟨w.heap.size, 0, none⟩ = some (.int .i64 4) ∧ w'.cell? ⟨w.heap.size, 1, none⟩ = some (.int .i64 3) ∧ w'.cell? ⟨w.heap.size, 2, none⟩ = some (.int .i64 8) ∧
  Aside0 ((x7 = 0 ∧ kq = 4) ∨ (x7 = 1 ∧ kq = 3 ∧ (c == 4) = false) ∨ (x7 = 2 ∧ kq = 2 ∧ (c == 4) = false ∧ (c == 3) = false) ∨ (x7 = 3 ∧ kq = 1 ∧ (c == 4) = false ∧ (c == 3) = false ∧ (c == 8) = false)))
 case atStart =>
  refine ⟨0, rfl, ⟨Below.alloc HB.out (Nat.le_refl _) _, h.below (Nat.le_refl _) (Below.alloc HB.out (Nat.le_refl _) _)⟩, ?_, ?_, ?_, ⟨.inl ⟨rfl, rfl⟩⟩⟩
  all_goals simp [go_sem]
 case round =>
  obtain ⟨x7, rfl, ⟨hb, he⟩, g0, g1, g2, ⟨hx⟩⟩ := hrel
  have HB2 := Aside0.mk hb
  clear hb
  rcases hx with ⟨rfl, rfl⟩ | ⟨rfl, rfl, c4⟩ | ⟨rfl, rfl, c4, c3⟩ | ⟨rfl, rfl, c4, c3, c8⟩
  ·go_wp2_with fail
   refine (Is_any v c 4 (by decide) _ he).mono ?_
   rintro e w' ⟨rfl, hb3⟩
   have g0' := (hb3.cell (cell_lt g0)).trans g0
   have g1' := (hb3.cell (cell_lt g1)).trans g1
   have g2' := (hb3.cell (cell_lt g2)).trans g2
   have he' := he.below (Nat.le_refl _) hb3
   have HB3 := as_ (HB2.out.trans (hb3.mono HB2.out.size))
   clear hb3
   cases hcd : (c == 4)
   ·go_wp2
    go_roundg 3
    ·exact ⟨1, rfl, ⟨HB3.out, he'⟩, g0', g1', g2', ⟨.inr (.inl ⟨rfl, rfl, hcd⟩)⟩⟩
    ·omega
   ·have hcd' : c = 4 := by simpa using hcd
    go_wp2
    go_ret
    exact ⟨by rw [hcd']; rfl, HB3.out⟩
  ·go_wp2_with fail
   refine (Is_any v c 3 (by decide) _ he).mono ?_
   rintro e w' ⟨rfl, hb3⟩
   have g0' := (hb3.cell (cell_lt g0)).trans g0
   have g1' := (hb3.cell (cell_lt g1)).trans g1
   have g2' := (hb3.cell (cell_lt g2)).trans g2
   have he' := he.below (Nat.le_refl _) hb3
   have HB3 := as_ (HB2.out.trans (hb3.mono HB2.out.size))
   clear hb3
   cases hcd : (c == 3)
   ·go_wp2
    go_roundg 2
    ·exact ⟨2, rfl, ⟨HB3.out, he'⟩, g0', g1', g2', ⟨.inr (.inr (.inl ⟨rfl, rfl, c4, hcd⟩))⟩⟩
    ·omega
   ·have hcd' : c = 3 := by simpa using hcd
    go_wp2
    go_ret
    exact ⟨by rw [hcd']; rfl, HB3.out⟩
  ·go_wp2_with fail
   refine (Is_any v c 8 (by decide) _ he).mono ?_
   rintro e w' ⟨rfl, hb3⟩
   have g0' := (hb3.cell (cell_lt g0)).trans g0
   have g1' := (hb3.cell (cell_lt g1)).trans g1
   have g2' := (hb3.cell (cell_lt g2)).trans g2
   have he' := he.below (Nat.le_refl _) hb3
   have HB3 := as_ (HB2.out.trans (hb3.mono HB2.out.size))
   clear hb3
   cases hcd : (c == 8)
   ·go_wp2
    go_roundg 1
    ·exact ⟨3, rfl, ⟨HB3.out, he'⟩, g0', g1', g2', ⟨.inr (.inr (.inr ⟨rfl, rfl, c4, c3, hcd⟩))⟩⟩
    ·omega
   ·have hcd' : c = 8 := by simpa using hcd
    go_wp2
    go_ret
    exact ⟨by rw [hcd']; rfl, HB3.out⟩
  ·have c0 : c = 0 := by
    rcases hc with h | h | h | h
    ·exact h
    all_goals (subst h; simp at c4 c3 c8)
   go_wp2
   go_ret
   exact ⟨by rw [c0]; rfl, HB2.out⟩
def head_may.sized (p : Int) : Bool := decide (p = 128) || decide (p = 256) || decide (p = 512) || decide (p = 1024)
def head_may.right (a0_0 a0_1 a0_2 a0_3 a0_4 : Int) : Bool := decide (a0_0 ≥ 1) && decide (a0_0 < 5) && decide (0 ≤ a0_1) && decide (a0_1 < 256) && decide (0 ≤ a0_2) && decide (a0_2 < 65536) && decide (0 ≤ a0_3) && decide (a0_3 < 4096) && decide (0 ≤ a0_4) && decide (a0_4 < 4096)
def head_may.code (a0_0 a0_1 a0_2 a0_3 a0_4 : Int) (body : ByteArray) (p : Int) : Int := if head_may.sized p = true then (if head_may.right a0_0 a0_1 a0_2 a0_3 a0_4 = true then (if p - 16 < (body.size : Int) then 8 else 0) else 3) else 4
def head_may.f (a0_0 a0_1 a0_2 a0_3 a0_4 : Int) (body : ByteArray) (p : Int) : Option Int := some (head_may.code a0_0 a0_1 a0_2 a0_3 a0_4 body p)
theorem within_one (b x : Int) : head_within.f 2 b [x] = some (decide (0 ≤ x) && decide (x < b)) := by
 simp only [head_within.f, head_within.l0, rd, List.length_cons, List.length_nil]
 by_cases h0 : x < 0 <;> by_cases h1 : x ≥ b <;> simp [h0, h1, wrap64] <;> omega
theorem within_two (b x y : Int) : head_within.f 3 b [x, y] = some (decide (0 ≤ x) && decide (x < b) && decide (0 ≤ y) && decide (y < b)) := by
 simp only [head_within.f, head_within.l0, rd, List.length_cons, List.length_nil]
 by_cases h0 : x < 0 <;> by_cases h1 : x ≥ b <;> by_cases h2 : y < 0 <;> by_cases h3 : y ≥ b <;> simp [h0, h1, h2, h3, wrap64] <;> omega
theorem right_eq (a0 a1 a2 a3 a4 : Int) : head_Right.f 3 a0 a1 a2 a3 a4 = some (head_may.right a0 a1 a2 a3 a4) := by
 have m : ∀ b x, head_within.f 3 b [x] = some (decide (0 ≤ x) && decide (x < b)) := fun b x => head_within.mono b [x] 2 _ (within_one b x)
 simp only [head_Right.f, m, within_two, head_may.right, Option.bind_some]
 by_cases h0 : a0 ≥ 1 <;> by_cases h1 : a0 < 5 <;> simp only [h0, h1, if_true, if_false, decide_true, decide_false, Bool.true_and, Bool.false_and]
 cases hA : (decide (0 ≤ a1) && decide (a1 < 256)) <;> cases hB : (decide (0 ≤ a2) && decide (a2 < 65536)) <;> simp_all <;> (intros; omega)
set_option maxRecDepth 100000 in
set_option maxHeartbeats 4000000 in
theorem head_may.calls (a0_0 a0_1 a0_2 a0_3 a0_4 : Int) (body : ByteArray) (p : Int) (r : Int) (w : World) (h : head_may.f a0_0 a0_1 a0_2 a0_3 a0_4 body p = some r) :
  Calls Try.prog 57 #[.agg #[.int .i64 a0_0, .int .i64 a0_1, .int .i64 a0_2, .int .i64 a0_3, .int .i64 a0_4], .string body, .int .i64 p] w fun e w' => ∃ v, e = .returned v ∧ Errs v r w' ∧ (r = 0 ∨ r = 4 ∨ r = 3 ∨ r = 8) ∧ Below w.heap.size w w' := by
 have HB := as_ (Below.refl w.heap.size w)
 have H := as_ (Option.some.inj h)
 clear h
 have hu23 := Try.underlying65
 go_enter Try.func57, Try.ntmps57
 go_wp2_with fail
 refine (disk_Size.calls p (head_may.sized p) _ rfl).mono ?_
 rintro e w1 ⟨rfl, hb⟩
 have HB1 := as_ ((Below.alloc HB.out (Nat.le_refl _) _).trans (hb.mono (by simp)))
 have c0 : w1.cell? ⟨w.heap.size, 0, none⟩ = some (.int .i64 a0_0) := (hb.cell (p := ⟨w.heap.size, 0, none⟩) (by simp)).trans (World.cell?_alloc_new w _ _ 0)
 have c1 : w1.cell? ⟨w.heap.size, 1, none⟩ = some (.int .i64 a0_1) := (hb.cell (p := ⟨w.heap.size, 1, none⟩) (by simp)).trans (World.cell?_alloc_new w _ _ 1)
 have c2 : w1.cell? ⟨w.heap.size, 2, none⟩ = some (.int .i64 a0_2) := (hb.cell (p := ⟨w.heap.size, 2, none⟩) (by simp)).trans (World.cell?_alloc_new w _ _ 2)
 have c3 : w1.cell? ⟨w.heap.size, 3, none⟩ = some (.int .i64 a0_3) := (hb.cell (p := ⟨w.heap.size, 3, none⟩) (by simp)).trans (World.cell?_alloc_new w _ _ 3)
 have c4 : w1.cell? ⟨w.heap.size, 4, none⟩ = some (.int .i64 a0_4) := (hb.cell (p := ⟨w.heap.size, 4, none⟩) (by simp)).trans (World.cell?_alloc_new w _ _ 4)
 cases hs : head_may.sized p
 ·go_wp2_with fail
  refine (fault_calls _ 4 _).mono ?_
  rintro e w2 ⟨gj, gb, cap, u2, rfl, j1, j2, j3, j4, j5, hb2⟩
  have hr : r = 4 := by rw [← H.out]; simp [head_may.code, hs]
  have HB2 := as_ (HB1.out.trans (hb2.mono (HB1.out.size)))
  clear hb2 
  go_wp2
  go_ret
  exact ⟨_, rfl, .inr ⟨by omega, gj, gb, cap, u2, rfl, j1, j2, by rw [hr]; exact j3⟩, by omega, HB2.out⟩
 ·go_wp2_with fail
  refine (head_Right.calls 3 a0_0 a0_1 a0_2 a0_3 a0_4 _ _ (right_eq _ _ _ _ _)).mono ?_
  rintro e w2 ⟨rfl, hb2⟩
  have HB2 := as_ (HB1.out.trans (hb2.mono (HB1.out.size)))
  clear hb2
  cases hR : head_may.right a0_0 a0_1 a0_2 a0_3 a0_4
  ·go_wp2_with fail
   refine (fault_calls _ 3 _).mono ?_
   rintro e w3 ⟨gj, gb, cap, u2, rfl, j1, j2, j3, j4, j5, hb3⟩
   have hr : r = 3 := by rw [← H.out]; simp [head_may.code, hs, hR]
   have HB3 := as_ (HB2.out.trans (hb3.mono (HB2.out.size)))
   clear hb3
   go_wp2
   go_ret
   exact ⟨_, rfl, .inr ⟨by omega, gj, gb, cap, u2, rfl, j1, j2, by rw [hr]; exact j3⟩, by omega, HB3.out⟩
  ·have hp : p = 128 ∨ p = 256 ∨ p = 512 ∨ p = 1024 := by simpa [head_may.sized, or_assoc] using hs
   have hw1 : (IntKind.i64.wrap (p - 16)) = p - 16 := by rw [IntKind.wrap_i64]; omega
   cases hL : decide (p - 16 < (body.size : Int))
   ·have hL' : ¬ p - 16 < (body.size : Int) := of_decide_eq_false hL
    have hr : r = 0 := by rw [← H.out]; simp only [head_may.code, hs, hR, if_true, if_neg hL']
    go_wp2
    go_ret
    exact ⟨_, rfl, .inl ⟨hr, rfl⟩, .inl hr, HB2.out⟩
   ·have hL' : p - 16 < (body.size : Int) := of_decide_eq_true hL
    have hr : r = 8 := by rw [← H.out]; simp only [head_may.code, hs, hR, if_true, if_pos hL']
    go_wp2_with fail
    refine (fault_calls _ 8 _).mono ?_
    rintro e w3 ⟨gj, gb, cap, u2, rfl, j1, j2, j3, j4, j5, hb3⟩
    have HB3 := as_ (HB2.out.trans (hb3.mono (HB2.out.size)))
    clear hb3
    go_wp2
    go_ret
    exact ⟨_, rfl, .inr ⟨by omega, gj, gb, cap, u2, rfl, j1, j2, by rw [hr]; exact j3⟩, by omega, HB3.out⟩
theorem head_may.calls2 (v : Value) (c : Int) (hc : c = 0 ∨ c = 4 ∨ c = 3 ∨ c = 8) (w : World) (h : Errs v c w) : Calls Try.prog 56 #[v] w fun e w' => e = .returned (.int .i64 c) ∧ Below w.heap.size w w' := number_calls v c hc w h


/-! ### head_bytes: function 58 -/
def head_bytes.l0 : Nat → List Int → List Int → Int → Int → Option (ByteArray)
 | 0, _, _, _, _ => none
 | k + 1, x3, x6, x7, x8 => if x8 < x7 then (if 0 ≤ x8 then (if x8 < (x6.length : Int) then (if x3.length < 140737488355328 then (head_bytes.l0 k (x3 ++ [(rd x6 x8) % 256]) x6 x7 (wrap64 (x8 + 1))) else (none)) else (none)) else (none)) else (some (strOfNums x3))
def head_bytes.f (k : Nat) (l0 : List Int) : Option (ByteArray) := head_bytes.l0 k ([] : List Int) l0 (l0.length : Int) 0
theorem head_bytes.mono_l : ∀ k, (∀ y0 y1 y2 y3, LeO (head_bytes.l0 k y0 y1 y2 y3) (head_bytes.l0 (k + 1) y0 y1 y2 y3))
 | 0 => fun _ _ _ _ r h => by simp [head_bytes.l0] at h
 | k + 1 => by
  have ih0 := head_bytes.mono_l k
  ·intro y0 y1 y2 y3
   unfold head_bytes.l0
   repeat' first
   | (with_reducible exact ih0 _ _ _ _)
   | (with_reducible exact LeO.refl _)
   | (with_reducible exact LeO.none _)
   | (with_reducible refine LeO.ite ?_ ?_)
   | (with_reducible refine LeO.bind ?_ (fun _ => ?_))
   | exact ih0 _ _ _ _
   | exact LeO.none _
   | refine LeO.ite ?_ ?_
   | refine LeO.bind ?_ (fun _ => ?_)
theorem head_bytes.mono : ∀ a0 k, LeO (head_bytes.f k a0) (head_bytes.f (k + 1) a0) := by
 intro a0 k
 have ih0 := head_bytes.mono_l k
 unfold head_bytes.f
 repeat' first
   | (with_reducible exact ih0 _ _ _ _)
   | (with_reducible exact LeO.refl _)
   | (with_reducible exact LeO.none _)
   | (with_reducible refine LeO.ite ?_ ?_)
   | (with_reducible refine LeO.bind ?_ (fun _ => ?_))
   | exact ih0 _ _ _ _
   | exact LeO.none _
   | refine LeO.ite ?_ ?_
   | refine LeO.bind ?_ (fun _ => ?_)
set_option maxHeartbeats 8000000 in
set_option maxRecDepth 100000 in
theorem head_bytes.calls (k : Nat) (A0 : Option Addr) (c0 : Nat) (l0 : List Int) (r : ByteArray) (w : World) (hr0 : Kd.C (Kd.int .i64) w A0 l0.length l0) (hc0 : l0.length ≤ c0) (h : head_bytes.f k l0 = some r) :
  Calls Try.prog 58 #[.slice A0 l0.length c0] w fun e w' => e = .returned (.string r) ∧ Below w.heap.size w w' := by
 have HR0 := Aside0.mk hr0
 have HC0 := Aside0.mk hc0
 clear hr0 hc0
 have HB := as_ (Below.refl w.heap.size w)
 have H : (head_bytes.l0 k ([] : List Int) l0 (l0.length : Int) 0) = some r := h
 clear h
 have H' := Aside0.mk H
 clear H
 go_enter Try.func58, Try.ntmps58
 go_wp2
 go_loopg [3, 8] k (fun kq v3 v8 w' => ∃ (x3_1 : List Int) (x8_1 : Int), v8 = .int .i64 x8_1 ∧ Aside0 (head_bytes.l0 kq x3_1 l0 (l0.length : Int) x8_1 = some r) ∧ Aside0 (kq ≤ k) ∧ Aside0 (Kd.R (Kd.int .u8) 5 w' w.heap.size (fun _ => True) v3 x3_1) ∧ Aside0 (Below w.heap.size w w'))
 case atStart => exact ⟨(([] : List Int)), (0), (by first | rfl | (simp; done) | (simp [*]; done)), H', ⟨Nat.le_refl _⟩, ⟨by first | exact Kd.R_nil _ _ _ _ _ | exact Kd.N_nil _ _ _ _ _ | exact Kd.V_nil _ _ _ _ _ | exact Kd.Q_nil _ _ _ _ _ | exact Kd.S_nil _ _ _ _ _⟩, ⟨by repeat (first | (with_reducible first | exact HB.out | apply below_alloc | apply pw_below_drewN | apply below_drew1) | exact HB.out)⟩⟩
 case round =>
  clear H'
  obtain ⟨x3_1, x8_1, rfl, HA, HK1, HO_3, HB⟩ := hrel
  cases gk with
  | zero => exact absurd HA.out (by simp [head_bytes.l0])
  | succ k1 =>
   have H := HA.out
   clear HA
   simp only [head_bytes.l0] at H
   by_cases c2 : x8_1 < (l0.length : Int)
   rotate_left
   ·rw [if_neg c2] at H
    have c2b0 : decide (x8_1 < (l0.length : Int)) = false := decide_eq_false c2
    clear c2
    obtain rfl := Option.some.inj H
    have hcv7 := own_string (P := Try.prog) Try.underlying58 Try.underlying5 Try.underlying9 (Kd.own_of_R HO_3.out)
    go_wp2
    go_ret
    exact ⟨eW, by repeat (first | (with_reducible first | exact HB.out | apply below_alloc | apply pw_below_drewN | apply below_drew1) | exact HB.out)⟩
 
   rw [if_pos c2] at H
   have c2b0 : decide (x8_1 < (l0.length : Int)) = true := decide_eq_true c2
   clear c2
   by_cases c3 : 0 ≤ x8_1
   rotate_left
   ·rw [if_neg c3] at H
    exact absurd H (by simp)
   rw [if_pos c3] at H
   have c3b0 : decide (0 ≤ x8_1) = true := decide_eq_true c3
   clear c3
   by_cases c4 : x8_1 < (l0.length : Int)
   rotate_left
   ·rw [if_neg c4] at H
    exact absurd H (by simp)
   rw [if_pos c4] at H
   have c4b0 : decide (x8_1 < (l0.length : Int)) = true := decide_eq_true c4
   clear c4
   by_cases c5 : x3_1.length < 140737488355328
   rotate_left
   ·rw [if_neg c5] at H
    exact absurd H (by simp)
   rw [if_pos c5] at H
   have LMc5 := Aside0.mk c5
   clear c5
   obtain ⟨y390, hy390⟩ : ∃ y_ : List Int, y_ = (x3_1 ++ [(rd l0 x8_1) % 256]) := ⟨_, rfl⟩
   replace H : (head_bytes.l0 k1 y390 l0 (l0.length : Int) (wrap64 (x8_1 + 1))) = some r := by first | (rw [hy390]; with_reducible exact H) | (have H2_ := (Option.bind_some _ _).symm.trans H; rw [hy390]; with_reducible exact H2_) | (have H2_ := (Option.bind_some _ _).symm.trans H; with_reducible exact H2_) | with_reducible exact H | (rw [hy390]; exact H) | exact H
   have Ny390 := Aside0.mk hy390
   clear hy390
   have H' := Aside0.mk H
   clear H
   have p389 : 0 ≤ (x8_1 : Int) := of_decide_eq_true aM
   have q389 : x8_1 < (l0.length : Int) := of_decide_eq_true aM
   obtain ⟨ad389, e389, hx389_0⟩ := Kd.at_int HR0.out x8_1 p389 q389
   cases e389
   replace hx389_0 := (HB.out.cell (World.block_lt_of_cell? w _ hx389_0)).trans hx389_0
   replace p389 := eq_true p389
   replace q389 := eq_true q389
   go_wp2_with (first | ((with_reducible refine gate_builtin (b := .append) (xs := #[.tmp 12, .tmp 15]) rfl ?_); at_builtin; refine Kd.R_append (Kd.int .u8) (w0 := w) w.heap.size rfl (.tmp 12) (.tmp 15) 58 5 (.int .u8 0) 1 rfl Try.underlying58 info5 rfl (by decide) (by omega) u3 x3_1 ((rd l0 x8_1) % 256) [.int .u8 ((rd l0 x8_1) % 256)] (fun _ => True) (fun _ => False) rfl rfl ?aP (fun _ hk => hk.elim) ?aF ?aO ?aB ?aS ?aL ?_; (case aP => exact rfl); (case aB => exact bA); (case aF => exact (fun _ _ => trivial)); (case aO => exact (by (with_reducible repeat (first | apply Kd.R_alloc | apply Kd.R_drewN | apply Kd.R_drew)); exact HO_3.out)); (case aS => exact (below_size bA)); (case aL => have := LMc5.out; omega); intro v391 w6 ho hb hg hat; rw [← Ny390.out] at ho; have HO392 := as_ (ho); replace HB := as_ (hb); clear HO_3; clear ho hb hg hat))
   go_roundg k1
   case measure => have := HK1.out; omega
   case rel => exact ⟨(y390), (wrap64 (x8_1 + 1)), (by first | rfl | (simp; done) | (simp [*]; done)), H', ⟨by have := HK1.out; omega⟩, ⟨by (with_reducible repeat (first | apply Kd.R_alloc | apply Kd.R_drewN | apply Kd.R_drew)); exact HO392.out⟩, ⟨by repeat (first | (with_reducible first | exact HB.out | apply below_alloc | apply pw_below_drewN | apply below_drew1) | exact HB.out)⟩⟩
end Go.Proofs.Ytfialmegikegbaa.P
