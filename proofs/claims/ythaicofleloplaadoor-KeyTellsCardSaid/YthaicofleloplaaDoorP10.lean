/- What is proved here: for functions of the Go text, a Lean function each, and that the call comes to just what it answers. Conditions: as each contract names them. Written by wip/tools/myprint.py, a driver of the print of the kit. -/
import Derived.Test.YthaicofleloplaaDoorP0
import Derived.Test.YthaicofleloplaaDoorP5
import Derived.Test.YthaicofleloplaaDoorP9
import Derived.Test.YthaicofleloplaaDoorWAbbr
namespace Go.Proofs.YthaicofleloplaaDoor.P
open Go.RowKit Go.Proofs.YthaicofleloplaaDoorW.PrintWords Go.Proofs.YthaicofleloplaaDoorW.PrintLast Go.Proofs.YthaicofleloplaaDoorW.PrintMore Go.Proofs.YthaicofleloplaaDoorW.Abbr
-- PACKED
attribute [local go_sem] max2_int min2_int max_two min_two max_three min_three max_four min_four Go.Proofs.YthaicofleloplaaDoorLaws.str_leq Go.Proofs.YthaicofleloplaaDoorLaws.str_gtr Go.Proofs.YthaicofleloplaaDoorLaws.str_geq Go.Proofs.YthaicofleloplaaDoorLaws.max2_str Go.Proofs.YthaicofleloplaaDoorLaws.min2_str   -- for this text's walks alone
set_option linter.unusedVariables false
set_option linter.unusedSimpArgs false

/-! ### withyref01_Get: function 46 -/
mutual
def withyref01_Get.j0 : Nat → ByteArray → Int → Bool → Option (Int × Int × Int)
 | 0, _, _, _ => none
 | k + 1, x0, x1, x17 => if x17 = true then (some (0, 0, 4)) else (if x1 = (x0.size : Int) then (withyref01_Get.j1 k x0 x1 true) else (if 0 ≤ x1 then (if x1 < (x0.size : Int) then ((withyref01_follow.f (bt x0 x1)).bind fun t238 => (withyref01_Get.j1 k x0 x1 (decide ((wrap64 ((wrap64 (x1 + 1)) + t238)) > (x0.size : Int))))) else (none)) else (none)))
def withyref01_Get.j1 : Nat → ByteArray → Int → Bool → Option (Int × Int × Int)
 | 0, _, _, _ => none
 | k + 1, x0, x1, x33 => if x33 = true then (some (0, 0, 7)) else (if 0 ≤ x1 then (if x1 < (x0.size : Int) then ((withyref01_follow.f (bt x0 x1)).bind fun t239 => (withyref01_Get.l0 k x0 x1 (wrap64 ((wrap64 (x1 + 1)) + t239)) 0 (wrap64 (x1 + 1)))) else (none)) else (none))
def withyref01_Get.l0 : Nat → ByteArray → Int → Int → Int → Int → Option (Int × Int × Int)
 | 0, _, _, _, _, _ => none
 | k + 1, x0, x1, x7, x8, x9 => if x9 < x7 then (if 0 ≤ x9 then (if x9 < (x0.size : Int) then (withyref01_Get.l0 k x0 x1 x7 (IntKind.u64.wrap ((IntKind.u64.wrap (x8 * 256)) + (IntKind.u64.wrap (bt x0 x9)))) (wrap64 (x9 + 1))) else (none)) else (none)) else (if 0 ≤ x1 then (if x1 < (x0.size : Int) then (if (bt x0 x1) ≤ 240 then ((withyref01_Put.f k (IntKind.u64.wrap (bt x0 x1))).bind fun t240 => (if x1 ≤ x7 then (if x7 ≤ (x0.size : Int) then (if t240.toList = (x0.extract (x1 : Int).toNat (x7 : Int).toNat).toList then (some (IntKind.u64.wrap (bt x0 x1), x7, 0)) else (some (0, 0, 3))) else (none)) else (none))) else (if (bt x0 x1) ≤ 248 then ((withyref01_Put.f k (IntKind.u64.wrap ((IntKind.u64.wrap (240 + (IntKind.u64.wrap (256 * (IntKind.u64.wrap ((IntKind.u64.wrap (bt x0 x1)) - 241)))))) + x8))).bind fun t241 => (if x1 ≤ x7 then (if x7 ≤ (x0.size : Int) then (if t241.toList = (x0.extract (x1 : Int).toNat (x7 : Int).toNat).toList then (some (IntKind.u64.wrap ((IntKind.u64.wrap (240 + (IntKind.u64.wrap (256 * (IntKind.u64.wrap ((IntKind.u64.wrap (bt x0 x1)) - 241)))))) + x8), x7, 0)) else (some (0, 0, 3))) else (none)) else (none))) else (if (bt x0 x1) = 249 then ((withyref01_Put.f k (IntKind.u64.wrap (2288 + x8))).bind fun t242 => (if x1 ≤ x7 then (if x7 ≤ (x0.size : Int) then (if t242.toList = (x0.extract (x1 : Int).toNat (x7 : Int).toNat).toList then (some (IntKind.u64.wrap (2288 + x8), x7, 0)) else (some (0, 0, 3))) else (none)) else (none))) else ((withyref01_Put.f k x8).bind fun t243 => (if x1 ≤ x7 then (if x7 ≤ (x0.size : Int) then (if t243.toList = (x0.extract (x1 : Int).toNat (x7 : Int).toNat).toList then (some (x8, x7, 0)) else (some (0, 0, 3))) else (none)) else (none)))))) else (none)) else (none))
end
def withyref01_Get.f (k : Nat) (a0 : ByteArray) (a1 : Int) : Option (Int × Int × Int) := if a1 < 0 then (withyref01_Get.j0 k a0 a1 true) else (withyref01_Get.j0 k a0 a1 (decide (a1 > (a0.size : Int))))
theorem withyref01_Get.mono_l : ∀ k, (∀ y0 y1 y2, LeO (withyref01_Get.j0 k y0 y1 y2) (withyref01_Get.j0 (k + 1) y0 y1 y2)) ∧ (∀ y0 y1 y2, LeO (withyref01_Get.j1 k y0 y1 y2) (withyref01_Get.j1 (k + 1) y0 y1 y2)) ∧ (∀ y0 y1 y2 y3 y4, LeO (withyref01_Get.l0 k y0 y1 y2 y3 y4) (withyref01_Get.l0 (k + 1) y0 y1 y2 y3 y4))
 | 0 => ⟨fun _ _ _ r h => by simp [withyref01_Get.j0] at h, fun _ _ _ r h => by simp [withyref01_Get.j1] at h, fun _ _ _ _ _ r h => by simp [withyref01_Get.l0] at h⟩
 | k + 1 => by
  obtain ⟨ih0, ih1, ih2⟩ := withyref01_Get.mono_l k
  refine ⟨?_, ?_, ?_⟩
  ·intro y0 y1 y2
   unfold withyref01_Get.j0
   repeat' first
   | (with_reducible exact ih0 _ _ _)
   | (with_reducible exact ih1 _ _ _)
   | (with_reducible exact ih2 _ _ _ _ _)
   | (with_reducible exact withyref01_Put.mono _ _)
   | (with_reducible exact LeO.refl _)
   | (with_reducible exact LeO.none _)
   | (with_reducible refine LeO.ite ?_ ?_)
   | (with_reducible refine LeO.bind ?_ (fun _ => ?_))
   | exact ih0 _ _ _
   | exact ih1 _ _ _
   | exact ih2 _ _ _ _ _
   | exact withyref01_Put.mono _ _
   | exact LeO.none _
   | refine LeO.ite ?_ ?_
   | refine LeO.bind ?_ (fun _ => ?_)
  ·intro y0 y1 y2
   unfold withyref01_Get.j1
   repeat' first
   | (with_reducible exact ih0 _ _ _)
   | (with_reducible exact ih1 _ _ _)
   | (with_reducible exact ih2 _ _ _ _ _)
   | (with_reducible exact withyref01_Put.mono _ _)
   | (with_reducible exact LeO.refl _)
   | (with_reducible exact LeO.none _)
   | (with_reducible refine LeO.ite ?_ ?_)
   | (with_reducible refine LeO.bind ?_ (fun _ => ?_))
   | exact ih0 _ _ _
   | exact ih1 _ _ _
   | exact ih2 _ _ _ _ _
   | exact withyref01_Put.mono _ _
   | exact LeO.none _
   | refine LeO.ite ?_ ?_
   | refine LeO.bind ?_ (fun _ => ?_)
  ·intro y0 y1 y2 y3 y4
   unfold withyref01_Get.l0
   repeat' first
   | (with_reducible exact ih0 _ _ _)
   | (with_reducible exact ih1 _ _ _)
   | (with_reducible exact ih2 _ _ _ _ _)
   | (with_reducible exact withyref01_Put.mono _ _)
   | (with_reducible exact LeO.refl _)
   | (with_reducible exact LeO.none _)
   | (with_reducible refine LeO.ite ?_ ?_)
   | (with_reducible refine LeO.bind ?_ (fun _ => ?_))
   | exact ih0 _ _ _
   | exact ih1 _ _ _
   | exact ih2 _ _ _ _ _
   | exact withyref01_Put.mono _ _
   | exact LeO.none _
   | refine LeO.ite ?_ ?_
   | refine LeO.bind ?_ (fun _ => ?_)
theorem withyref01_Get.mono : ∀ a0 a1 k, LeO (withyref01_Get.f k a0 a1) (withyref01_Get.f (k + 1) a0 a1) := by
 intro a0 a1 k
 obtain ⟨ih0, ih1, ih2⟩ := withyref01_Get.mono_l k
 unfold withyref01_Get.f
 repeat' first
   | (with_reducible exact ih0 _ _ _)
   | (with_reducible exact ih1 _ _ _)
   | (with_reducible exact ih2 _ _ _ _ _)
   | (with_reducible exact withyref01_Put.mono _ _)
   | (with_reducible exact LeO.refl _)
   | (with_reducible exact LeO.none _)
   | (with_reducible refine LeO.ite ?_ ?_)
   | (with_reducible refine LeO.bind ?_ (fun _ => ?_))
   | exact ih0 _ _ _
   | exact ih1 _ _ _
   | exact ih2 _ _ _ _ _
   | exact withyref01_Put.mono _ _
   | exact LeO.none _
   | refine LeO.ite ?_ ?_
   | refine LeO.bind ?_ (fun _ => ?_)
set_option maxHeartbeats 8000000 in
set_option maxRecDepth 100000 in
theorem withyref01_Get.calls (k : Nat) (a0 : ByteArray) (a1 : Int) (r1 : Int) (r2 : Int) (r3 : Int) (w : World) (h : withyref01_Get.f k a0 a1 = some (r1, r2, r3)) :
  Calls Tryd.prog 46 #[.string a0, .int .i64 a1] w fun e w' => e = .returned (.tuple #[.int .u64 r1, .int .i64 r2, .int .i64 r3]) ∧ Below w.heap.size w w' := by
 have HB := as_ (Below.refl w.heap.size w)
 have H : (if a1 < 0 then (withyref01_Get.j0 k a0 a1 true) else (withyref01_Get.j0 k a0 a1 (decide (a1 > (a0.size : Int))))) = some (r1, r2, r3) := h
 clear h
 have HC3 := Aside0.mk H
 clear H
 go_enter Tryd.func46, Tryd.ntmps46
 go_upto_region 1 with (fail)
 go_cut [17] (fun v17 wc => ∃ (kq : Nat) (x17_2 : Bool), v17 = .bool x17_2 ∧ Aside0 (withyref01_Get.j0 kq a0 a1 x17_2 = some (r1, r2, r3)) ∧ Aside0 (kq ≤ k) ∧ Aside0 (Below w.heap.size w wc))
 case first =>
  have H := HC3.out
  clear HC3
  by_cases c4 : a1 < 0
  rotate_left
  ·rw [if_neg c4] at H
   have c4b0 : decide (a1 < 0) = false := decide_eq_false c4
   clear c4
   (first | rw [c4b0] | (simp only [i64_w, i32_w]; rw [c4b0]) | rw [c4b1] | skip)
   have H' := Aside0.mk H
   clear H
   go_wp2
   go_meet
   case rel => exact ⟨_, (decide (a1 > (a0.size : Int))), (by first | rfl | (simp; done) | (simp [*]; done)), H', ⟨by first | omega | exact Nat.le_refl _⟩, ⟨by repeat (first | (with_reducible first | exact HB.out | apply below_alloc | apply pw_below_drewN | apply below_drew1) | exact HB.out)⟩⟩
  rw [if_pos c4] at H
  have c4b0 : decide (a1 < 0) = true := decide_eq_true c4
  clear c4
  (first | rw [c4b0] | (simp only [i64_w, i32_w]; rw [c4b0]) | rw [c4b1] | skip)
  have H' := Aside0.mk H
  clear H
  go_wp2
  go_meet
  case rel => exact ⟨_, (true), (by first | rfl | (simp; done) | (simp [*]; done)), H', ⟨by first | omega | exact Nat.le_refl _⟩, ⟨by repeat (first | (with_reducible first | exact HB.out | apply below_alloc | apply pw_below_drewN | apply below_drew1) | exact HB.out)⟩⟩
 case rest =>
  clear HC3
  try clear p2
  try clear c4
  try clear c4b0
  try clear c4b1
  obtain ⟨kq, x17_2, rfl, HA, HJ2, HB⟩ := hcut
  cases kq with
  | zero => exact absurd HA.out (by simp [withyref01_Get.j0])
  | succ kj2 =>
   have H := HA.out
   clear HA
   simp only [withyref01_Get.j0] at H
   by_cases c5 : x17_2 = true
   ·subst c5
    have H1 : (some (0, 0, 4)) = some (r1, r2, r3) := by rw [if_pos rfl] at H; exact H
    clear H
    have H := H1
    clear H1
    simp only [Option.some.injEq, Prod.mk.injEq] at H
    obtain ⟨rfl, rfl, rfl⟩ := H
    go_wp2
    go_ret3
    exact ⟨eW, by repeat (first | (with_reducible first | exact HB.out | apply below_alloc | apply pw_below_drewN | apply below_drew1) | exact HB.out)⟩
   replace c5 := Bool.eq_false_iff.mpr c5
   subst c5
   have H1 : (if a1 = (a0.size : Int) then (withyref01_Get.j1 kj2 a0 a1 true) else (if 0 ≤ a1 then (if a1 < (a0.size : Int) then ((withyref01_follow.f (bt a0 a1)).bind fun t238 => (withyref01_Get.j1 kj2 a0 a1 (decide ((wrap64 ((wrap64 (a1 + 1)) + t238)) > (a0.size : Int))))) else (none)) else (none))) = some (r1, r2, r3) := by rw [if_neg (show ¬ (false = true) by decide)] at H; exact H
   clear H
   have H := H1
   clear H1
   have HC6 := Aside0.mk H
   clear H
   go_upto_region 3 with (fail)
   go_cut [33] (fun v33 wc => ∃ (kq : Nat) (x33_5 : Bool), v33 = .bool x33_5 ∧ Aside0 (withyref01_Get.j1 kq a0 a1 x33_5 = some (r1, r2, r3)) ∧ Aside0 (kq ≤ kj2) ∧ Aside0 (Below w.heap.size w wc))
   case first =>
    have H := HC6.out
    clear HC6
    by_cases c7 : a1 = (a0.size : Int)
    ·rw [if_pos c7] at H
     have c7b0 : (a1 == (a0.size : Int)) = true := beq_iff_eq.mpr c7
     have c7b1 : (a1 != (a0.size : Int)) = false := bne_eq_false_iff_eq.mpr c7
     clear c7
     (first | rw [c7b0] | (simp only [i64_w, i32_w]; rw [c7b0]) | rw [c7b1] | skip)
     have H' := Aside0.mk H
     clear H
     go_wp2
     go_meet
     case rel => exact ⟨_, (true), (by first | rfl | (simp; done) | (simp [*]; done)), H', ⟨by have := HJ2.out; first | omega | exact Nat.le_refl _⟩, ⟨by repeat (first | (with_reducible first | exact HB.out | apply below_alloc | apply pw_below_drewN | apply below_drew1) | exact HB.out)⟩⟩
    rw [if_neg c7] at H
    have c7b0 : (a1 == (a0.size : Int)) = false := beq_eq_false_iff_ne.mpr c7
    have c7b1 : (a1 != (a0.size : Int)) = true := bne_iff_ne.mpr c7
    (first | rw [c7b0] | (simp only [i64_w, i32_w]; rw [c7b0]) | rw [c7b1] | skip)
    by_cases c8 : 0 ≤ a1
    rotate_left
    ·rw [if_neg c8] at H
     exact absurd H (by simp)
    rw [if_pos c8] at H
    have c8b0 : decide (0 ≤ a1) = true := decide_eq_true c8
    clear c8
    by_cases c9 : a1 < (a0.size : Int)
    rotate_left
    ·rw [if_neg c9] at H
     exact absurd H (by simp)
    rw [if_pos c9] at H
    have c9b0 : decide (a1 < (a0.size : Int)) = true := decide_eq_true c9
    clear c9
    replace H := bM H
    obtain ⟨t238, A110, H⟩ := H
    replace H : (withyref01_Get.j1 kj2 a0 a1 (decide ((wrap64 ((wrap64 (a1 + 1)) + t238)) > (a0.size : Int)))) = some (r1, r2, r3) := H
    have A11 := Aside0.mk A110
    clear A110
    have H' := Aside0.mk H
    clear H
    have p10 : 0 ≤ (a1 : Int) := of_decide_eq_true aM
    have q10 : a1 < (a0.size : Int) := of_decide_eq_true aM
    have hx10 := bt_at a0 a1
    replace p10 := eq_true p10
    replace q10 := eq_true q10
    go_wp2_with (first | (go_at_call 58; (with_reducible refine (withyref01_follow.calls (bt a0 a1) t238 _ A11.out).mono ?_); rintro e w' ⟨rfl, ⟨nd, rfl⟩⟩))
    go_meet
    case rel => exact ⟨_, (decide ((wrap64 ((wrap64 (a1 + 1)) + t238)) > (a0.size : Int))), (by first | rfl | (simp; done) | (simp [*]; done)), H', ⟨by have := HJ2.out; first | omega | exact Nat.le_refl _⟩, ⟨by repeat (first | (with_reducible first | exact HB.out | apply below_alloc | apply pw_below_drewN | apply below_drew1) | exact HB.out)⟩⟩
   case rest =>
    clear HC6
    try clear p1
    try clear q1
    try clear hx1
    try clear p2
    try clear c4
    try clear c4b0
    try clear c4b1
    try clear c5
    try clear p6
    try clear c7
    try clear c7b0
    try clear c7b1
    try clear c8
    try clear c8b0
    try clear c9
    try clear c9b0
    try clear p10
    try clear q10
    try clear hx10
    try clear p10
    try clear p2
    try clear q10
    obtain ⟨kq, x33_5, rfl, HA, HJ5, HB⟩ := hcut
    cases kq with
    | zero => exact absurd HA.out (by simp [withyref01_Get.j1])
    | succ kj5 =>
     have H := HA.out
     clear HA
     simp only [withyref01_Get.j1] at H
     by_cases c12 : x33_5 = true
     ·subst c12
      have H1 : (some (0, 0, 7)) = some (r1, r2, r3) := by rw [if_pos rfl] at H; exact H
      clear H
      have H := H1
      clear H1
      simp only [Option.some.injEq, Prod.mk.injEq] at H
      obtain ⟨rfl, rfl, rfl⟩ := H
      go_wp2
      go_ret3
      exact ⟨eW, by repeat (first | (with_reducible first | exact HB.out | apply below_alloc | apply pw_below_drewN | apply below_drew1) | exact HB.out)⟩
     replace c12 := Bool.eq_false_iff.mpr c12
     subst c12
     have H1 : (if 0 ≤ a1 then (if a1 < (a0.size : Int) then ((withyref01_follow.f (bt a0 a1)).bind fun t239 => (withyref01_Get.l0 kj5 a0 a1 (wrap64 ((wrap64 (a1 + 1)) + t239)) 0 (wrap64 (a1 + 1)))) else (none)) else (none)) = some (r1, r2, r3) := by rw [if_neg (show ¬ (false = true) by decide)] at H; exact H
     clear H
     have H := H1
     clear H1
     by_cases c13 : 0 ≤ a1
     rotate_left
     ·rw [if_neg c13] at H
      exact absurd H (by simp)
 
     rw [if_pos c13] at H
     have c13b0 : decide (0 ≤ a1) = true := decide_eq_true c13
     clear c13
     by_cases c14 : a1 < (a0.size : Int)
     rotate_left
     ·rw [if_neg c14] at H
      exact absurd H (by simp)
     rw [if_pos c14] at H
     have c14b0 : decide (a1 < (a0.size : Int)) = true := decide_eq_true c14
     clear c14
     replace H := bM H
     obtain ⟨t239, A160, H⟩ := H
     replace H : (withyref01_Get.l0 kj5 a0 a1 (wrap64 ((wrap64 (a1 + 1)) + t239)) 0 (wrap64 (a1 + 1))) = some (r1, r2, r3) := H
     have A16 := Aside0.mk A160
     clear A160
     have H' := Aside0.mk H
     clear H
     have p15 : 0 ≤ (a1 : Int) := of_decide_eq_true aM
     have q15 : a1 < (a0.size : Int) := of_decide_eq_true aM
     have hx15 := bt_at a0 a1
     replace p15 := eq_true p15
     replace q15 := eq_true q15
     go_wp2_with (first | ((with_reducible refine gate_callee (f := 58) rfl ?_); refine goesL_ (some 39) rfl rfl Tryd.func58 (by kernel_rfl) rfl #[.int .u8 (bt a0 a1)] rfl aO ?_; (with_reducible refine (withyref01_follow.calls (bt a0 a1) t239 _ A16.out).mono ?_); rintro e w' ⟨rfl, ⟨nd, rfl⟩⟩; refine ⟨_, rfl, ?_⟩))
     go_loopg [8, 9] kj5 (fun kq v8 v9 w' => ∃ (x8_3 : Int) (x9_3 : Int), v8 = .int .u64 x8_3 ∧ v9 = .int .i64 x9_3 ∧ Aside0 (withyref01_Get.l0 kq a0 a1 (wrap64 ((wrap64 (a1 + 1)) + t239)) x8_3 x9_3 = some (r1, r2, r3)) ∧ Aside0 (kq ≤ kj5) ∧ Aside0 (Below w.heap.size w w'))
     case atStart => exact ⟨(0), (wrap64 (a1 + 1)), (by first | rfl | (simp; done) | (simp [*]; done)), (by first | rfl | (simp; done) | (simp [*]; done)), H', ⟨Nat.le_refl _⟩, ⟨by repeat (first | (with_reducible first | exact HB.out | apply below_alloc | apply pw_below_drewN | apply below_drew1) | exact HB.out)⟩⟩
     case round =>
      clear H'
      try clear c1
      try clear p1
      try clear q1
      try clear hx1
      try clear p2
      try clear c4
      try clear c4b0
      try clear c4b1
      try clear c5
      try clear p6
      try clear c7
      try clear c7b0
      try clear c7b1
      try clear c8
      try clear c8b0
      try clear c9
      try clear c9b0
      try clear p10
      try clear q10
      try clear hx10
      try clear c12
      try clear c13
      try clear c13b0
      try clear c14
      try clear c14b0
      try clear p15
      try clear q15
      try clear hx15
      try clear p1
      try clear p10
      try clear p15
      try clear p2
      try clear p6
      try clear q1
      try clear q10
      try clear q15
      obtain ⟨x8_3, x9_3, rfl, rfl, HA, HK3, HB⟩ := hrel
      cases gk with
      | zero => exact absurd HA.out (by simp [withyref01_Get.l0])
      | succ k3 =>
       have H := HA.out
       clear HA
       simp only [withyref01_Get.l0] at H
       by_cases c17 : x9_3 < (wrap64 ((wrap64 (a1 + 1)) + t239))
       ·rw [if_pos c17] at H
        have c17b0 : decide (x9_3 < (wrap64 ((wrap64 (a1 + 1)) + t239))) = true := decide_eq_true c17
        clear c17
        by_cases c18 : 0 ≤ x9_3
        rotate_left
        ·rw [if_neg c18] at H
         exact absurd H (by simp)
        rw [if_pos c18] at H
        have c18b0 : decide (0 ≤ x9_3) = true := decide_eq_true c18
        clear c18
        by_cases c19 : x9_3 < (a0.size : Int)
        rotate_left
        ·rw [if_neg c19] at H
         exact absurd H (by simp)
        rw [if_pos c19] at H
        have c19b0 : decide (x9_3 < (a0.size : Int)) = true := decide_eq_true c19
        clear c19
        have H' := Aside0.mk H
        clear H
        have p20 : 0 ≤ (x9_3 : Int) := of_decide_eq_true aM
        have q20 : x9_3 < (a0.size : Int) := of_decide_eq_true aM
        have hx20 := bt_at a0 x9_3
        replace p20 := eq_true p20
        replace q20 := eq_true q20
        go_wp2
        go_roundg k3
        case measure => have := HJ2.out; have := HJ5.out; have := HK3.out; omega
        case rel => exact ⟨(IntKind.u64.wrap ((IntKind.u64.wrap (x8_3 * 256)) + (IntKind.u64.wrap (bt a0 x9_3)))), (wrap64 (x9_3 + 1)), (by first | rfl | (simp; done) | (simp [*]; done)), (by first | rfl | (simp; done) | (simp [*]; done)), H', ⟨by have := HJ2.out; have := HJ5.out; have := HK3.out; omega⟩, ⟨by repeat (first | (with_reducible first | exact HB.out | apply below_alloc | apply pw_below_drewN | apply below_drew1) | exact HB.out)⟩⟩
       rw [if_neg c17] at H
       have c17b0 : decide (x9_3 < (wrap64 ((wrap64 (a1 + 1)) + t239))) = false := decide_eq_false c17
       clear c17
       by_cases c21 : 0 ≤ a1
       rotate_left
       ·rw [if_neg c21] at H
        exact absurd H (by simp)
       rw [if_pos c21] at H
       have c21b0 : decide (0 ≤ a1) = true := decide_eq_true c21
       clear c21
       by_cases c22 : a1 < (a0.size : Int)
       rotate_left
       ·rw [if_neg c22] at H
        exact absurd H (by simp)
       rw [if_pos c22] at H
       have c22b0 : decide (a1 < (a0.size : Int)) = true := decide_eq_true c22
       clear c22
       by_cases c24 : (bt a0 a1) ≤ 240
       ·rw [if_pos c24] at H
        have c24b0 : decide ((bt a0 a1) ≤ 240) = true := decide_eq_true c24
        clear c24
        replace H := bM H
        obtain ⟨t240, A260, H⟩ := H
        replace H : (if a1 ≤ (wrap64 ((wrap64 (a1 + 1)) + t239)) then (if (wrap64 ((wrap64 (a1 + 1)) + t239)) ≤ (a0.size : Int) then (if t240.toList = (a0.extract (a1 : Int).toNat ((wrap64 ((wrap64 (a1 + 1)) + t239)) : Int).toNat).toList then (some (IntKind.u64.wrap (bt a0 a1), (wrap64 ((wrap64 (a1 + 1)) + t239)), 0)) else (some (0, 0, 3))) else (none)) else (none)) = some (r1, r2, r3) := H
        have A26 := Aside0.mk A260
        clear A260
        have c27b0 := eq_true (of_decide_eq_true aM : 0 ≤ a1)
        by_cases c28 : a1 ≤ (wrap64 ((wrap64 (a1 + 1)) + t239))
        rotate_left
        ·rw [if_neg c28] at H
         exact absurd H (by simp)
        rw [if_pos c28] at H
        have c28b0 := eq_true c28
        have c28b1 : decide (a1 ≤ (wrap64 ((wrap64 (a1 + 1)) + t239))) = true := decide_eq_true c28
        by_cases c29 : (wrap64 ((wrap64 (a1 + 1)) + t239)) ≤ (a0.size : Int)
        rotate_left
        ·rw [if_neg c29] at H
         exact absurd H (by simp)
        rw [if_pos c29] at H
        have c29b0 := eq_true c29
        have c29b1 : decide ((wrap64 ((wrap64 (a1 + 1)) + t239)) ≤ (a0.size : Int)) = true := decide_eq_true c29
        obtain ⟨js30, hjs30⟩ : ∃ j_ : ByteArray, (a0.extract (a1 : Int).toNat ((wrap64 ((wrap64 (a1 + 1)) + t239)) : Int).toNat) = j_ := ⟨_, rfl⟩
        replace H : (if t240.toList = (js30).toList then (some (IntKind.u64.wrap (bt a0 a1), (wrap64 ((wrap64 (a1 + 1)) + t239)), 0)) else (some (0, 0, 3))) = some (r1, r2, r3) := by first | (rw [hjs30] at H; exact H) | (simp only [hjs30] at H ⊢; exact H)
        (try rw [hjs30] at A26)
        by_cases c31 : t240.toList = (js30).toList
        rotate_left
        ·rw [if_neg c31] at H
         have c31b0 : (t240.toList == (js30).toList) = false := beq_eq_false_iff_ne.mpr c31
         have c31b1 : (t240.toList != (js30).toList) = true := bne_iff_ne.mpr c31
         simp only [Option.some.injEq, Prod.mk.injEq] at H
         obtain ⟨rfl, rfl, rfl⟩ := H
         have p23 : 0 ≤ (a1 : Int) := of_decide_eq_true aM
         have q23 : a1 < (a0.size : Int) := of_decide_eq_true aM
         have hx23 := bt_at a0 a1
         replace p23 := eq_true p23
         replace q23 := eq_true q23
         have p25 : 0 ≤ (a1 : Int) := of_decide_eq_true aM
         have q25 : a1 < (a0.size : Int) := of_decide_eq_true aM
         have hx25 := bt_at a0 a1
         replace p25 := eq_true p25
         replace q25 := eq_true q25
         try go_wp2
         replace HB := as_ (below_drew1 HB.out)
         refine start_ (n := 7) (S := fun w' => True) (ds := []) #[ff, ff, ff, ff, ff, ff, ff] (by kernel_rfl) rfl rfl trivial (fun hHeld => ?_)
         generalize wr.drew = w34 at HB hHeld ⊢
         refine pure_ (i := 0) (N := some 82) (v := ?_) (a' := ?_) #[tt, ff, ff, ff, ff, ff, ff] rfl rfl (by kernel_rfl) (fun _ _ _ h => h) (Or.inl ⟨by rfl, ?_⟩) ?_ ?_
         rotate_left
         ·intro w'
          go_simp
          with_reducible rfl
         rotate_left
         ·exact aP
         refine pure_ (i := 2) (N := some 84) (v := ?_) (a' := ?_) #[tt, ff, tt, ff, ff, ff, ff] rfl rfl (by kernel_rfl) (fun _ _ _ h => h) (Or.inl ⟨by rfl, ?_⟩) ?_ ?_
         rotate_left
         ·intro w'
          go_simp
          with_reducible rfl
         rotate_left
         ·exact aP
         refine pure_ (i := 3) (N := some 85) (v := ?_) (a' := ?_) #[tt, ff, tt, tt, ff, ff, ff] rfl rfl (by kernel_rfl) (fun _ _ _ h => h) (Or.inl ⟨by rfl, ?_⟩) ?_ ?_
         rotate_left
         ·intro w'
          go_simp
          with_reducible rfl
         rotate_left
         ·exact aP
         refine pure_ (i := 4) (N := some 86) (v := ?_) (a' := ?_) #[tt, ff, tt, tt, tt, ff, ff] rfl rfl (by kernel_rfl) (fun _ _ _ h => h) (Or.inl ⟨by rfl, ?_⟩) ?_ ?_
         rotate_left
         ·intro w'
          go_simp
          with_reducible rfl
         rotate_left
         ·exact aP
         refine pure_ (i := 5) (N := some 87) (v := ?_) (a' := ?_) #[tt, ff, tt, tt, tt, tt, ff] rfl rfl (by kernel_rfl) (fun _ _ _ h => h) (Or.inl ⟨by rfl, ?_⟩) ?_ ?_
         rotate_left
         ·intro w'
          go_simp
          with_reducible rfl
         rotate_left
         ·exact aP
         refine one_ (i := 1) (N := some 83) #[tt, tt, tt, tt, tt, tt, ff] rfl rfl (by kernel_rfl) (by decide) (fun K hK => ?_)
         refine goes_ Tryd.func44 (by kernel_rfl) rfl #[.int .u64 (IntKind.u64.wrap (bt a0 a1))] (by rfl) rfl rfl aO ?_
         with_reducible refine (withyref01_Put.calls k3 (IntKind.u64.wrap (bt a0 a1)) t240 _ A26.out).mono ?_
         rintro e w35 ⟨rfl, hb⟩
         refine ⟨_, rfl, ?_⟩
         replace HB := as_ (below_step bA hb)
         (try clear hb)
         (try clear hb2)
         (try clear hk)
         (try clear hi)
         refine hK.out _ _ trivial (fun hHeld => ?_)
         clear hK K
         refine norm_ (a' := ?_) ?_ ?_
         rotate_left
         ·show Act.put _ (some 83) _ = _
          simp only [Act.put, List.setIfInBounds_toArray, List.set_cons_zero, List.set_cons_succ, i64_w, i32_w]
          rfl
         refine pure_ (i := 6) (N := some 88) (v := ?_) (a' := ?_) #[tt, tt, tt, tt, tt, tt, tt] rfl rfl (by kernel_rfl) (fun _ _ _ h => h) (Or.inl ⟨by rfl, ?_⟩) ?_ ?_
         rotate_left
         ·intro w'
          go_simp
          with_reducible rfl
         rotate_left
         ·exact aP
         refine done_ (by kernel_rfl) ?_
         try go_wp2
         go_ret3
         exact ⟨by first | rfl | (simp [errW_none, errW_some] <;> rfl) | (simp only [← hjs30]; first | rfl | (simp [errW_none, errW_some] <;> rfl)) | (simp [*, errW_none, errW_some] <;> rfl), by repeat (first | (with_reducible first | exact HB.out | apply below_alloc | apply pw_below_drewN | apply below_drew1) | exact HB.out)⟩
        rw [if_pos c31] at H
        have c31b0 : (t240.toList == (js30).toList) = true := beq_iff_eq.mpr c31
        have c31b1 : (t240.toList != (js30).toList) = false := bne_eq_false_iff_eq.mpr c31
        clear c31
        simp only [Option.some.injEq, Prod.mk.injEq] at H
        obtain ⟨rfl, rfl, rfl⟩ := H
        have p23 : 0 ≤ (a1 : Int) := of_decide_eq_true aM
        have q23 : a1 < (a0.size : Int) := of_decide_eq_true aM
        have hx23 := bt_at a0 a1
        replace p23 := eq_true p23
        replace q23 := eq_true q23
        have p25 : 0 ≤ (a1 : Int) := of_decide_eq_true aM
        have q25 : a1 < (a0.size : Int) := of_decide_eq_true aM
        have hx25 := bt_at a0 a1
        replace p25 := eq_true p25
        replace q25 := eq_true q25
        try go_wp2
        replace HB := as_ (below_drew1 HB.out)
        refine start_ (n := 7) (S := fun w' => True) (ds := []) #[ff, ff, ff, ff, ff, ff, ff] (by kernel_rfl) rfl rfl trivial (fun hHeld => ?_)
        generalize wr.drew = w32 at HB hHeld ⊢
        refine pure_ (i := 0) (N := some 82) (v := ?_) (a' := ?_) #[tt, ff, ff, ff, ff, ff, ff] rfl rfl (by kernel_rfl) (fun _ _ _ h => h) (Or.inl ⟨by rfl, ?_⟩) ?_ ?_
        rotate_left
        ·intro w'
         go_simp
         with_reducible rfl
        rotate_left
        ·exact aP
        refine pure_ (i := 2) (N := some 84) (v := ?_) (a' := ?_) #[tt, ff, tt, ff, ff, ff, ff] rfl rfl (by kernel_rfl) (fun _ _ _ h => h) (Or.inl ⟨by rfl, ?_⟩) ?_ ?_
        rotate_left
        ·intro w'
         go_simp
         with_reducible rfl
        rotate_left
        ·exact aP
        refine pure_ (i := 3) (N := some 85) (v := ?_) (a' := ?_) #[tt, ff, tt, tt, ff, ff, ff] rfl rfl (by kernel_rfl) (fun _ _ _ h => h) (Or.inl ⟨by rfl, ?_⟩) ?_ ?_
        rotate_left
        ·intro w'
         go_simp
         with_reducible rfl
        rotate_left
        ·exact aP
        refine pure_ (i := 4) (N := some 86) (v := ?_) (a' := ?_) #[tt, ff, tt, tt, tt, ff, ff] rfl rfl (by kernel_rfl) (fun _ _ _ h => h) (Or.inl ⟨by rfl, ?_⟩) ?_ ?_
        rotate_left
        ·intro w'
         go_simp
         with_reducible rfl
        rotate_left
        ·exact aP
        refine pure_ (i := 5) (N := some 87) (v := ?_) (a' := ?_) #[tt, ff, tt, tt, tt, tt, ff] rfl rfl (by kernel_rfl) (fun _ _ _ h => h) (Or.inl ⟨by rfl, ?_⟩) ?_ ?_
        rotate_left
        ·intro w'
         go_simp
         with_reducible rfl
        rotate_left
        ·exact aP
        refine one_ (i := 1) (N := some 83) #[tt, tt, tt, tt, tt, tt, ff] rfl rfl (by kernel_rfl) (by decide) (fun K hK => ?_)
        refine goes_ Tryd.func44 (by kernel_rfl) rfl #[.int .u64 (IntKind.u64.wrap (bt a0 a1))] (by rfl) rfl rfl aO ?_
        with_reducible refine (withyref01_Put.calls k3 (IntKind.u64.wrap (bt a0 a1)) t240 _ A26.out).mono ?_
        rintro e w33 ⟨rfl, hb⟩
        refine ⟨_, rfl, ?_⟩
        replace HB := as_ (below_step bA hb)
        (try clear hb)
        (try clear hb2)
        (try clear hk)
        (try clear hi)
        refine hK.out _ _ trivial (fun hHeld => ?_)
        clear hK K
        refine norm_ (a' := ?_) ?_ ?_
        rotate_left
        ·show Act.put _ (some 83) _ = _
         simp only [Act.put, List.setIfInBounds_toArray, List.set_cons_zero, List.set_cons_succ, i64_w, i32_w]
         rfl
        refine pure_ (i := 6) (N := some 88) (v := ?_) (a' := ?_) #[tt, tt, tt, tt, tt, tt, tt] rfl rfl (by kernel_rfl) (fun _ _ _ h => h) (Or.inl ⟨by rfl, ?_⟩) ?_ ?_
        rotate_left
        ·intro w'
         go_simp
         with_reducible rfl
        rotate_left
        ·exact aP
        refine done_ (by kernel_rfl) ?_
        try go_wp2
        go_ret3
        exact ⟨by first | rfl | (simp [errW_none, errW_some] <;> rfl) | (simp only [← hjs30]; first | rfl | (simp [errW_none, errW_some] <;> rfl)) | (simp [*, errW_none, errW_some] <;> rfl), by repeat (first | (with_reducible first | exact HB.out | apply below_alloc | apply pw_below_drewN | apply below_drew1) | exact HB.out)⟩
       rw [if_neg c24] at H
       have c24b0 : decide ((bt a0 a1) ≤ 240) = false := decide_eq_false c24
       clear c24
       by_cases c37 : (bt a0 a1) ≤ 248
       ·rw [if_pos c37] at H
        have c37b0 : decide ((bt a0 a1) ≤ 248) = true := decide_eq_true c37
        clear c37
        replace H := bM H
        obtain ⟨t241, A390, H⟩ := H
        replace H : (if a1 ≤ (wrap64 ((wrap64 (a1 + 1)) + t239)) then (if (wrap64 ((wrap64 (a1 + 1)) + t239)) ≤ (a0.size : Int) then (if t241.toList = (a0.extract (a1 : Int).toNat ((wrap64 ((wrap64 (a1 + 1)) + t239)) : Int).toNat).toList then (some (IntKind.u64.wrap ((IntKind.u64.wrap (240 + (IntKind.u64.wrap (256 * (IntKind.u64.wrap ((IntKind.u64.wrap (bt a0 a1)) - 241)))))) + x8_3), (wrap64 ((wrap64 (a1 + 1)) + t239)), 0)) else (some (0, 0, 3))) else (none)) else (none)) = some (r1, r2, r3) := H
        have A39 := Aside0.mk A390
        clear A390
        have c40b0 := eq_true (of_decide_eq_true aM : 0 ≤ a1)
        by_cases c41 : a1 ≤ (wrap64 ((wrap64 (a1 + 1)) + t239))
        rotate_left
        ·rw [if_neg c41] at H
         exact absurd H (by simp)
        rw [if_pos c41] at H
        have c41b0 := eq_true c41
        have c41b1 : decide (a1 ≤ (wrap64 ((wrap64 (a1 + 1)) + t239))) = true := decide_eq_true c41
        by_cases c42 : (wrap64 ((wrap64 (a1 + 1)) + t239)) ≤ (a0.size : Int)
        rotate_left
        ·rw [if_neg c42] at H
         exact absurd H (by simp)
        rw [if_pos c42] at H
        have c42b0 := eq_true c42
        have c42b1 : decide ((wrap64 ((wrap64 (a1 + 1)) + t239)) ≤ (a0.size : Int)) = true := decide_eq_true c42
        obtain ⟨js43, hjs43⟩ : ∃ j_ : ByteArray, (a0.extract (a1 : Int).toNat ((wrap64 ((wrap64 (a1 + 1)) + t239)) : Int).toNat) = j_ := ⟨_, rfl⟩
        replace H : (if t241.toList = (js43).toList then (some (IntKind.u64.wrap ((IntKind.u64.wrap (240 + (IntKind.u64.wrap (256 * (IntKind.u64.wrap ((IntKind.u64.wrap (bt a0 a1)) - 241)))))) + x8_3), (wrap64 ((wrap64 (a1 + 1)) + t239)), 0)) else (some (0, 0, 3))) = some (r1, r2, r3) := by first | (rw [hjs43] at H; exact H) | (simp only [hjs43] at H ⊢; exact H)
        (try rw [hjs43] at A39)
        by_cases c44 : t241.toList = (js43).toList
        rotate_left
        ·rw [if_neg c44] at H
         have c44b0 : (t241.toList == (js43).toList) = false := beq_eq_false_iff_ne.mpr c44
         have c44b1 : (t241.toList != (js43).toList) = true := bne_iff_ne.mpr c44
         simp only [Option.some.injEq, Prod.mk.injEq] at H
         obtain ⟨rfl, rfl, rfl⟩ := H
         have p23 : 0 ≤ (a1 : Int) := of_decide_eq_true aM
         have q23 : a1 < (a0.size : Int) := of_decide_eq_true aM
         have hx23 := bt_at a0 a1
         replace p23 := eq_true p23
         replace q23 := eq_true q23
         have p36 : 0 ≤ (a1 : Int) := of_decide_eq_true aM
         have q36 : a1 < (a0.size : Int) := of_decide_eq_true aM
         have hx36 := bt_at a0 a1
         replace p36 := eq_true p36
         replace q36 := eq_true q36
         have p38 : 0 ≤ (a1 : Int) := of_decide_eq_true aM
         have q38 : a1 < (a0.size : Int) := of_decide_eq_true aM
         have hx38 := bt_at a0 a1
         replace p38 := eq_true p38
         replace q38 := eq_true q38
         try go_wp2
         replace HB := as_ (below_drew1 HB.out)
         refine start_ (n := 7) (S := fun w' => True) (ds := []) #[ff, ff, ff, ff, ff, ff, ff] (by kernel_rfl) rfl rfl trivial (fun hHeld => ?_)
         generalize wr.drew = w47 at HB hHeld ⊢
         refine pure_ (i := 0) (N := some 82) (v := ?_) (a' := ?_) #[tt, ff, ff, ff, ff, ff, ff] rfl rfl (by kernel_rfl) (fun _ _ _ h => h) (Or.inl ⟨by rfl, ?_⟩) ?_ ?_
         rotate_left
         ·intro w'
          go_simp
          with_reducible rfl
         rotate_left
         ·exact aP
         refine pure_ (i := 2) (N := some 84) (v := ?_) (a' := ?_) #[tt, ff, tt, ff, ff, ff, ff] rfl rfl (by kernel_rfl) (fun _ _ _ h => h) (Or.inl ⟨by rfl, ?_⟩) ?_ ?_
         rotate_left
         ·intro w'
          go_simp
          with_reducible rfl
         rotate_left
         ·exact aP
         refine pure_ (i := 3) (N := some 85) (v := ?_) (a' := ?_) #[tt, ff, tt, tt, ff, ff, ff] rfl rfl (by kernel_rfl) (fun _ _ _ h => h) (Or.inl ⟨by rfl, ?_⟩) ?_ ?_
         rotate_left
         ·intro w'
          go_simp
          with_reducible rfl
         rotate_left
         ·exact aP
         refine pure_ (i := 4) (N := some 86) (v := ?_) (a' := ?_) #[tt, ff, tt, tt, tt, ff, ff] rfl rfl (by kernel_rfl) (fun _ _ _ h => h) (Or.inl ⟨by rfl, ?_⟩) ?_ ?_
         rotate_left
         ·intro w'
          go_simp
          with_reducible rfl
         rotate_left
         ·exact aP
         refine pure_ (i := 5) (N := some 87) (v := ?_) (a' := ?_) #[tt, ff, tt, tt, tt, tt, ff] rfl rfl (by kernel_rfl) (fun _ _ _ h => h) (Or.inl ⟨by rfl, ?_⟩) ?_ ?_
         rotate_left
         ·intro w'
          go_simp
          with_reducible rfl
         rotate_left
         ·exact aP
         refine one_ (i := 1) (N := some 83) #[tt, tt, tt, tt, tt, tt, ff] rfl rfl (by kernel_rfl) (by decide) (fun K hK => ?_)
         refine goes_ Tryd.func44 (by kernel_rfl) rfl #[.int .u64 (IntKind.u64.wrap ((IntKind.u64.wrap (240 + (IntKind.u64.wrap (256 * (IntKind.u64.wrap ((IntKind.u64.wrap (bt a0 a1)) - 241)))))) + x8_3))] (by rfl) rfl rfl aO ?_
         with_reducible refine (withyref01_Put.calls k3 (IntKind.u64.wrap ((IntKind.u64.wrap (240 + (IntKind.u64.wrap (256 * (IntKind.u64.wrap ((IntKind.u64.wrap (bt a0 a1)) - 241)))))) + x8_3)) t241 _ A39.out).mono ?_
         rintro e w48 ⟨rfl, hb⟩
         refine ⟨_, rfl, ?_⟩
         replace HB := as_ (below_step bA hb)
         (try clear hb)
         (try clear hb2)
         (try clear hk)
         (try clear hi)
         refine hK.out _ _ trivial (fun hHeld => ?_)
         clear hK K
         refine norm_ (a' := ?_) ?_ ?_
         rotate_left
         ·show Act.put _ (some 83) _ = _
          simp only [Act.put, List.setIfInBounds_toArray, List.set_cons_zero, List.set_cons_succ, i64_w, i32_w]
          rfl
         refine pure_ (i := 6) (N := some 88) (v := ?_) (a' := ?_) #[tt, tt, tt, tt, tt, tt, tt] rfl rfl (by kernel_rfl) (fun _ _ _ h => h) (Or.inl ⟨by rfl, ?_⟩) ?_ ?_
         rotate_left
         ·intro w'
          go_simp
          with_reducible rfl
         rotate_left
         ·exact aP
         refine done_ (by kernel_rfl) ?_
         try go_wp2
         go_ret3
         exact ⟨by first | rfl | (simp [errW_none, errW_some] <;> rfl) | (simp only [← hjs43]; first | rfl | (simp [errW_none, errW_some] <;> rfl)) | (simp [*, errW_none, errW_some] <;> rfl), by repeat (first | (with_reducible first | exact HB.out | apply below_alloc | apply pw_below_drewN | apply below_drew1) | exact HB.out)⟩
        rw [if_pos c44] at H
        have c44b0 : (t241.toList == (js43).toList) = true := beq_iff_eq.mpr c44
        have c44b1 : (t241.toList != (js43).toList) = false := bne_eq_false_iff_eq.mpr c44
        clear c44
        simp only [Option.some.injEq, Prod.mk.injEq] at H
        obtain ⟨rfl, rfl, rfl⟩ := H
        have p23 : 0 ≤ (a1 : Int) := of_decide_eq_true aM
        have q23 : a1 < (a0.size : Int) := of_decide_eq_true aM
        have hx23 := bt_at a0 a1
        replace p23 := eq_true p23
        replace q23 := eq_true q23
        have p36 : 0 ≤ (a1 : Int) := of_decide_eq_true aM
        have q36 : a1 < (a0.size : Int) := of_decide_eq_true aM
        have hx36 := bt_at a0 a1
        replace p36 := eq_true p36
        replace q36 := eq_true q36
        have p38 : 0 ≤ (a1 : Int) := of_decide_eq_true aM
        have q38 : a1 < (a0.size : Int) := of_decide_eq_true aM
        have hx38 := bt_at a0 a1
        replace p38 := eq_true p38
        replace q38 := eq_true q38
        try go_wp2
        replace HB := as_ (below_drew1 HB.out)
        refine start_ (n := 7) (S := fun w' => True) (ds := []) #[ff, ff, ff, ff, ff, ff, ff] (by kernel_rfl) rfl rfl trivial (fun hHeld => ?_)
        generalize wr.drew = w45 at HB hHeld ⊢
        refine pure_ (i := 0) (N := some 82) (v := ?_) (a' := ?_) #[tt, ff, ff, ff, ff, ff, ff] rfl rfl (by kernel_rfl) (fun _ _ _ h => h) (Or.inl ⟨by rfl, ?_⟩) ?_ ?_
        rotate_left
        ·intro w'
         go_simp
         with_reducible rfl
        rotate_left
        ·exact aP
        refine pure_ (i := 2) (N := some 84) (v := ?_) (a' := ?_) #[tt, ff, tt, ff, ff, ff, ff] rfl rfl (by kernel_rfl) (fun _ _ _ h => h) (Or.inl ⟨by rfl, ?_⟩) ?_ ?_
        rotate_left
        ·intro w'
         go_simp
         with_reducible rfl
        rotate_left
        ·exact aP
        refine pure_ (i := 3) (N := some 85) (v := ?_) (a' := ?_) #[tt, ff, tt, tt, ff, ff, ff] rfl rfl (by kernel_rfl) (fun _ _ _ h => h) (Or.inl ⟨by rfl, ?_⟩) ?_ ?_
        rotate_left
        ·intro w'
         go_simp
         with_reducible rfl
        rotate_left
        ·exact aP
        refine pure_ (i := 4) (N := some 86) (v := ?_) (a' := ?_) #[tt, ff, tt, tt, tt, ff, ff] rfl rfl (by kernel_rfl) (fun _ _ _ h => h) (Or.inl ⟨by rfl, ?_⟩) ?_ ?_
        rotate_left
        ·intro w'
         go_simp
         with_reducible rfl
        rotate_left
        ·exact aP
        refine pure_ (i := 5) (N := some 87) (v := ?_) (a' := ?_) #[tt, ff, tt, tt, tt, tt, ff] rfl rfl (by kernel_rfl) (fun _ _ _ h => h) (Or.inl ⟨by rfl, ?_⟩) ?_ ?_
        rotate_left
        ·intro w'
         go_simp
         with_reducible rfl
        rotate_left
        ·exact aP
        refine one_ (i := 1) (N := some 83) #[tt, tt, tt, tt, tt, tt, ff] rfl rfl (by kernel_rfl) (by decide) (fun K hK => ?_)
        refine goes_ Tryd.func44 (by kernel_rfl) rfl #[.int .u64 (IntKind.u64.wrap ((IntKind.u64.wrap (240 + (IntKind.u64.wrap (256 * (IntKind.u64.wrap ((IntKind.u64.wrap (bt a0 a1)) - 241)))))) + x8_3))] (by rfl) rfl rfl aO ?_
        with_reducible refine (withyref01_Put.calls k3 (IntKind.u64.wrap ((IntKind.u64.wrap (240 + (IntKind.u64.wrap (256 * (IntKind.u64.wrap ((IntKind.u64.wrap (bt a0 a1)) - 241)))))) + x8_3)) t241 _ A39.out).mono ?_
        rintro e w46 ⟨rfl, hb⟩
        refine ⟨_, rfl, ?_⟩
        replace HB := as_ (below_step bA hb)
        (try clear hb)
        (try clear hb2)
        (try clear hk)
        (try clear hi)
        refine hK.out _ _ trivial (fun hHeld => ?_)
        clear hK K
        refine norm_ (a' := ?_) ?_ ?_
        rotate_left
        ·show Act.put _ (some 83) _ = _
         simp only [Act.put, List.setIfInBounds_toArray, List.set_cons_zero, List.set_cons_succ, i64_w, i32_w]
         rfl
        refine pure_ (i := 6) (N := some 88) (v := ?_) (a' := ?_) #[tt, tt, tt, tt, tt, tt, tt] rfl rfl (by kernel_rfl) (fun _ _ _ h => h) (Or.inl ⟨by rfl, ?_⟩) ?_ ?_
        rotate_left
        ·intro w'
         go_simp
         with_reducible rfl
        rotate_left
        ·exact aP
        refine done_ (by kernel_rfl) ?_
        try go_wp2
        go_ret3
        exact ⟨by first | rfl | (simp [errW_none, errW_some] <;> rfl) | (simp only [← hjs43]; first | rfl | (simp [errW_none, errW_some] <;> rfl)) | (simp [*, errW_none, errW_some] <;> rfl), by repeat (first | (with_reducible first | exact HB.out | apply below_alloc | apply pw_below_drewN | apply below_drew1) | exact HB.out)⟩
       rw [if_neg c37] at H
       have c37b0 : decide ((bt a0 a1) ≤ 248) = false := decide_eq_false c37
       clear c37
       by_cases c50 : (bt a0 a1) = 249
       rotate_left
       ·rw [if_neg c50] at H
        have c50b0 : ((bt a0 a1) == 249) = false := beq_eq_false_iff_ne.mpr c50
        have c50b1 : ((bt a0 a1) != 249) = true := bne_iff_ne.mpr c50
        replace H := bM H
        obtain ⟨t243, A610, H⟩ := H
        replace H : (if a1 ≤ (wrap64 ((wrap64 (a1 + 1)) + t239)) then (if (wrap64 ((wrap64 (a1 + 1)) + t239)) ≤ (a0.size : Int) then (if t243.toList = (a0.extract (a1 : Int).toNat ((wrap64 ((wrap64 (a1 + 1)) + t239)) : Int).toNat).toList then (some (x8_3, (wrap64 ((wrap64 (a1 + 1)) + t239)), 0)) else (some (0, 0, 3))) else (none)) else (none)) = some (r1, r2, r3) := H
        have A61 := Aside0.mk A610
        clear A610
        have c62b0 := eq_true (of_decide_eq_true aM : 0 ≤ a1)
        by_cases c63 : a1 ≤ (wrap64 ((wrap64 (a1 + 1)) + t239))
        rotate_left
        ·rw [if_neg c63] at H
         exact absurd H (by simp)
        rw [if_pos c63] at H
        have c63b0 := eq_true c63
        have c63b1 : decide (a1 ≤ (wrap64 ((wrap64 (a1 + 1)) + t239))) = true := decide_eq_true c63
        by_cases c64 : (wrap64 ((wrap64 (a1 + 1)) + t239)) ≤ (a0.size : Int)
        rotate_left
        ·rw [if_neg c64] at H
         exact absurd H (by simp)
        rw [if_pos c64] at H
        have c64b0 := eq_true c64
        have c64b1 : decide ((wrap64 ((wrap64 (a1 + 1)) + t239)) ≤ (a0.size : Int)) = true := decide_eq_true c64
        obtain ⟨js65, hjs65⟩ : ∃ j_ : ByteArray, (a0.extract (a1 : Int).toNat ((wrap64 ((wrap64 (a1 + 1)) + t239)) : Int).toNat) = j_ := ⟨_, rfl⟩
        replace H : (if t243.toList = (js65).toList then (some (x8_3, (wrap64 ((wrap64 (a1 + 1)) + t239)), 0)) else (some (0, 0, 3))) = some (r1, r2, r3) := by first | (rw [hjs65] at H; exact H) | (simp only [hjs65] at H ⊢; exact H)
        (try rw [hjs65] at A61)
        by_cases c66 : t243.toList = (js65).toList
        rotate_left
        ·rw [if_neg c66] at H
         have c66b0 : (t243.toList == (js65).toList) = false := beq_eq_false_iff_ne.mpr c66
         have c66b1 : (t243.toList != (js65).toList) = true := bne_iff_ne.mpr c66
         simp only [Option.some.injEq, Prod.mk.injEq] at H
         obtain ⟨rfl, rfl, rfl⟩ := H
         have p23 : 0 ≤ (a1 : Int) := of_decide_eq_true aM
         have q23 : a1 < (a0.size : Int) := of_decide_eq_true aM
         have hx23 := bt_at a0 a1
         replace p23 := eq_true p23
         replace q23 := eq_true q23
         have p36 : 0 ≤ (a1 : Int) := of_decide_eq_true aM
         have q36 : a1 < (a0.size : Int) := of_decide_eq_true aM
         have hx36 := bt_at a0 a1
         replace p36 := eq_true p36
         replace q36 := eq_true q36
         have p49 : 0 ≤ (a1 : Int) := of_decide_eq_true aM
         have q49 : a1 < (a0.size : Int) := of_decide_eq_true aM
         have hx49 := bt_at a0 a1
         replace p49 := eq_true p49
         replace q49 := eq_true q49
         try go_wp2
         replace HB := as_ (below_drew1 HB.out)
         refine start_ (n := 7) (S := fun w' => True) (ds := []) #[ff, ff, ff, ff, ff, ff, ff] (by kernel_rfl) rfl rfl trivial (fun hHeld => ?_)
         generalize wr.drew = w69 at HB hHeld ⊢
         refine pure_ (i := 0) (N := some 82) (v := ?_) (a' := ?_) #[tt, ff, ff, ff, ff, ff, ff] rfl rfl (by kernel_rfl) (fun _ _ _ h => h) (Or.inl ⟨by rfl, ?_⟩) ?_ ?_
         rotate_left
         ·intro w'
          go_simp
          with_reducible rfl
         rotate_left
         ·exact aP
         refine pure_ (i := 2) (N := some 84) (v := ?_) (a' := ?_) #[tt, ff, tt, ff, ff, ff, ff] rfl rfl (by kernel_rfl) (fun _ _ _ h => h) (Or.inl ⟨by rfl, ?_⟩) ?_ ?_
         rotate_left
         ·intro w'
          go_simp
          with_reducible rfl
         rotate_left
         ·exact aP
         refine pure_ (i := 3) (N := some 85) (v := ?_) (a' := ?_) #[tt, ff, tt, tt, ff, ff, ff] rfl rfl (by kernel_rfl) (fun _ _ _ h => h) (Or.inl ⟨by rfl, ?_⟩) ?_ ?_
         rotate_left
         ·intro w'
          go_simp
          with_reducible rfl
         rotate_left
         ·exact aP
         refine pure_ (i := 4) (N := some 86) (v := ?_) (a' := ?_) #[tt, ff, tt, tt, tt, ff, ff] rfl rfl (by kernel_rfl) (fun _ _ _ h => h) (Or.inl ⟨by rfl, ?_⟩) ?_ ?_
         rotate_left
         ·intro w'
          go_simp
          with_reducible rfl
         rotate_left
         ·exact aP
         refine pure_ (i := 5) (N := some 87) (v := ?_) (a' := ?_) #[tt, ff, tt, tt, tt, tt, ff] rfl rfl (by kernel_rfl) (fun _ _ _ h => h) (Or.inl ⟨by rfl, ?_⟩) ?_ ?_
         rotate_left
         ·intro w'
          go_simp
          with_reducible rfl
         rotate_left
         ·exact aP
         refine one_ (i := 1) (N := some 83) #[tt, tt, tt, tt, tt, tt, ff] rfl rfl (by kernel_rfl) (by decide) (fun K hK => ?_)
         refine goes_ Tryd.func44 (by kernel_rfl) rfl #[.int .u64 x8_3] (by rfl) rfl rfl aO ?_
         with_reducible refine (withyref01_Put.calls k3 x8_3 t243 _ A61.out).mono ?_
         rintro e w70 ⟨rfl, hb⟩
         refine ⟨_, rfl, ?_⟩
         replace HB := as_ (below_step bA hb)
         (try clear hb)
         (try clear hb2)
         (try clear hk)
         (try clear hi)
         refine hK.out _ _ trivial (fun hHeld => ?_)
         clear hK K
         refine norm_ (a' := ?_) ?_ ?_
         rotate_left
         ·show Act.put _ (some 83) _ = _
          simp only [Act.put, List.setIfInBounds_toArray, List.set_cons_zero, List.set_cons_succ, i64_w, i32_w]
          rfl
         refine pure_ (i := 6) (N := some 88) (v := ?_) (a' := ?_) #[tt, tt, tt, tt, tt, tt, tt] rfl rfl (by kernel_rfl) (fun _ _ _ h => h) (Or.inl ⟨by rfl, ?_⟩) ?_ ?_
         rotate_left
         ·intro w'
          go_simp
          with_reducible rfl
         rotate_left
         ·exact aP
         refine done_ (by kernel_rfl) ?_
         try go_wp2
         go_ret3
         exact ⟨by first | rfl | (simp [errW_none, errW_some] <;> rfl) | (simp only [← hjs65]; first | rfl | (simp [errW_none, errW_some] <;> rfl)) | (simp [*, errW_none, errW_some] <;> rfl), by repeat (first | (with_reducible first | exact HB.out | apply below_alloc | apply pw_below_drewN | apply below_drew1) | exact HB.out)⟩
        rw [if_pos c66] at H
        have c66b0 : (t243.toList == (js65).toList) = true := beq_iff_eq.mpr c66
        have c66b1 : (t243.toList != (js65).toList) = false := bne_eq_false_iff_eq.mpr c66
        clear c66
        simp only [Option.some.injEq, Prod.mk.injEq] at H
        obtain ⟨rfl, rfl, rfl⟩ := H
        have p23 : 0 ≤ (a1 : Int) := of_decide_eq_true aM
        have q23 : a1 < (a0.size : Int) := of_decide_eq_true aM
        have hx23 := bt_at a0 a1
        replace p23 := eq_true p23
        replace q23 := eq_true q23
        have p36 : 0 ≤ (a1 : Int) := of_decide_eq_true aM
        have q36 : a1 < (a0.size : Int) := of_decide_eq_true aM
        have hx36 := bt_at a0 a1
        replace p36 := eq_true p36
        replace q36 := eq_true q36
        have p49 : 0 ≤ (a1 : Int) := of_decide_eq_true aM
        have q49 : a1 < (a0.size : Int) := of_decide_eq_true aM
        have hx49 := bt_at a0 a1
        replace p49 := eq_true p49
        replace q49 := eq_true q49
        try go_wp2
        replace HB := as_ (below_drew1 HB.out)
        refine start_ (n := 7) (S := fun w' => True) (ds := []) #[ff, ff, ff, ff, ff, ff, ff] (by kernel_rfl) rfl rfl trivial (fun hHeld => ?_)
        generalize wr.drew = w67 at HB hHeld ⊢
        refine pure_ (i := 0) (N := some 82) (v := ?_) (a' := ?_) #[tt, ff, ff, ff, ff, ff, ff] rfl rfl (by kernel_rfl) (fun _ _ _ h => h) (Or.inl ⟨by rfl, ?_⟩) ?_ ?_
        rotate_left
        ·intro w'
         go_simp
         with_reducible rfl
        rotate_left
        ·exact aP
        refine pure_ (i := 2) (N := some 84) (v := ?_) (a' := ?_) #[tt, ff, tt, ff, ff, ff, ff] rfl rfl (by kernel_rfl) (fun _ _ _ h => h) (Or.inl ⟨by rfl, ?_⟩) ?_ ?_
        rotate_left
        ·intro w'
         go_simp
         with_reducible rfl
        rotate_left
        ·exact aP
        refine pure_ (i := 3) (N := some 85) (v := ?_) (a' := ?_) #[tt, ff, tt, tt, ff, ff, ff] rfl rfl (by kernel_rfl) (fun _ _ _ h => h) (Or.inl ⟨by rfl, ?_⟩) ?_ ?_
        rotate_left
        ·intro w'
         go_simp
         with_reducible rfl
        rotate_left
        ·exact aP
        refine pure_ (i := 4) (N := some 86) (v := ?_) (a' := ?_) #[tt, ff, tt, tt, tt, ff, ff] rfl rfl (by kernel_rfl) (fun _ _ _ h => h) (Or.inl ⟨by rfl, ?_⟩) ?_ ?_
        rotate_left
        ·intro w'
         go_simp
         with_reducible rfl
        rotate_left
        ·exact aP
        refine pure_ (i := 5) (N := some 87) (v := ?_) (a' := ?_) #[tt, ff, tt, tt, tt, tt, ff] rfl rfl (by kernel_rfl) (fun _ _ _ h => h) (Or.inl ⟨by rfl, ?_⟩) ?_ ?_
        rotate_left
        ·intro w'
         go_simp
         with_reducible rfl
        rotate_left
        ·exact aP
        refine one_ (i := 1) (N := some 83) #[tt, tt, tt, tt, tt, tt, ff] rfl rfl (by kernel_rfl) (by decide) (fun K hK => ?_)
        refine goes_ Tryd.func44 (by kernel_rfl) rfl #[.int .u64 x8_3] (by rfl) rfl rfl aO ?_
        with_reducible refine (withyref01_Put.calls k3 x8_3 t243 _ A61.out).mono ?_
        rintro e w68 ⟨rfl, hb⟩
        refine ⟨_, rfl, ?_⟩
        replace HB := as_ (below_step bA hb)
        (try clear hb)
        (try clear hb2)
        (try clear hk)
        (try clear hi)
        refine hK.out _ _ trivial (fun hHeld => ?_)
        clear hK K
        refine norm_ (a' := ?_) ?_ ?_
        rotate_left
        ·show Act.put _ (some 83) _ = _
         simp only [Act.put, List.setIfInBounds_toArray, List.set_cons_zero, List.set_cons_succ, i64_w, i32_w]
         rfl
        refine pure_ (i := 6) (N := some 88) (v := ?_) (a' := ?_) #[tt, tt, tt, tt, tt, tt, tt] rfl rfl (by kernel_rfl) (fun _ _ _ h => h) (Or.inl ⟨by rfl, ?_⟩) ?_ ?_
        rotate_left
        ·intro w'
         go_simp
         with_reducible rfl
        rotate_left
        ·exact aP
        refine done_ (by kernel_rfl) ?_
        try go_wp2
        go_ret3
        exact ⟨by first | rfl | (simp [errW_none, errW_some] <;> rfl) | (simp only [← hjs65]; first | rfl | (simp [errW_none, errW_some] <;> rfl)) | (simp [*, errW_none, errW_some] <;> rfl), by repeat (first | (with_reducible first | exact HB.out | apply below_alloc | apply pw_below_drewN | apply below_drew1) | exact HB.out)⟩
       rw [if_pos c50] at H
       have c50b0 : ((bt a0 a1) == 249) = true := beq_iff_eq.mpr c50
       have c50b1 : ((bt a0 a1) != 249) = false := bne_eq_false_iff_eq.mpr c50
       clear c50
       replace H := bM H
       obtain ⟨t242, A510, H⟩ := H
       replace H : (if a1 ≤ (wrap64 ((wrap64 (a1 + 1)) + t239)) then (if (wrap64 ((wrap64 (a1 + 1)) + t239)) ≤ (a0.size : Int) then (if t242.toList = (a0.extract (a1 : Int).toNat ((wrap64 ((wrap64 (a1 + 1)) + t239)) : Int).toNat).toList then (some (IntKind.u64.wrap (2288 + x8_3), (wrap64 ((wrap64 (a1 + 1)) + t239)), 0)) else (some (0, 0, 3))) else (none)) else (none)) = some (r1, r2, r3) := H
       have A51 := Aside0.mk A510
       clear A510
       have c52b0 := eq_true (of_decide_eq_true aM : 0 ≤ a1)
       by_cases c53 : a1 ≤ (wrap64 ((wrap64 (a1 + 1)) + t239))
       rotate_left
       ·rw [if_neg c53] at H
        exact absurd H (by simp)
       rw [if_pos c53] at H
       have c53b0 := eq_true c53
       have c53b1 : decide (a1 ≤ (wrap64 ((wrap64 (a1 + 1)) + t239))) = true := decide_eq_true c53
       by_cases c54 : (wrap64 ((wrap64 (a1 + 1)) + t239)) ≤ (a0.size : Int)
       rotate_left
       ·rw [if_neg c54] at H
        exact absurd H (by simp)
       rw [if_pos c54] at H
       have c54b0 := eq_true c54
       have c54b1 : decide ((wrap64 ((wrap64 (a1 + 1)) + t239)) ≤ (a0.size : Int)) = true := decide_eq_true c54
       obtain ⟨js55, hjs55⟩ : ∃ j_ : ByteArray, (a0.extract (a1 : Int).toNat ((wrap64 ((wrap64 (a1 + 1)) + t239)) : Int).toNat) = j_ := ⟨_, rfl⟩
       replace H : (if t242.toList = (js55).toList then (some (IntKind.u64.wrap (2288 + x8_3), (wrap64 ((wrap64 (a1 + 1)) + t239)), 0)) else (some (0, 0, 3))) = some (r1, r2, r3) := by first | (rw [hjs55] at H; exact H) | (simp only [hjs55] at H ⊢; exact H)
       (try rw [hjs55] at A51)
       by_cases c56 : t242.toList = (js55).toList
       rotate_left
       ·rw [if_neg c56] at H
        have c56b0 : (t242.toList == (js55).toList) = false := beq_eq_false_iff_ne.mpr c56
        have c56b1 : (t242.toList != (js55).toList) = true := bne_iff_ne.mpr c56
        simp only [Option.some.injEq, Prod.mk.injEq] at H
        obtain ⟨rfl, rfl, rfl⟩ := H
        have p23 : 0 ≤ (a1 : Int) := of_decide_eq_true aM
        have q23 : a1 < (a0.size : Int) := of_decide_eq_true aM
        have hx23 := bt_at a0 a1
        replace p23 := eq_true p23
        replace q23 := eq_true q23
        have p36 : 0 ≤ (a1 : Int) := of_decide_eq_true aM
        have q36 : a1 < (a0.size : Int) := of_decide_eq_true aM
        have hx36 := bt_at a0 a1
        replace p36 := eq_true p36
        replace q36 := eq_true q36
        have p49 : 0 ≤ (a1 : Int) := of_decide_eq_true aM
        have q49 : a1 < (a0.size : Int) := of_decide_eq_true aM
        have hx49 := bt_at a0 a1
        replace p49 := eq_true p49
        replace q49 := eq_true q49
        try go_wp2
        replace HB := as_ (below_drew1 HB.out)
        refine start_ (n := 7) (S := fun w' => True) (ds := []) #[ff, ff, ff, ff, ff, ff, ff] (by kernel_rfl) rfl rfl trivial (fun hHeld => ?_)
        generalize wr.drew = w59 at HB hHeld ⊢
        refine pure_ (i := 0) (N := some 82) (v := ?_) (a' := ?_) #[tt, ff, ff, ff, ff, ff, ff] rfl rfl (by kernel_rfl) (fun _ _ _ h => h) (Or.inl ⟨by rfl, ?_⟩) ?_ ?_
        rotate_left
        ·intro w'
         go_simp
         with_reducible rfl
        rotate_left
        ·exact aP
        refine pure_ (i := 2) (N := some 84) (v := ?_) (a' := ?_) #[tt, ff, tt, ff, ff, ff, ff] rfl rfl (by kernel_rfl) (fun _ _ _ h => h) (Or.inl ⟨by rfl, ?_⟩) ?_ ?_
        rotate_left
        ·intro w'
         go_simp
         with_reducible rfl
        rotate_left
        ·exact aP
        refine pure_ (i := 3) (N := some 85) (v := ?_) (a' := ?_) #[tt, ff, tt, tt, ff, ff, ff] rfl rfl (by kernel_rfl) (fun _ _ _ h => h) (Or.inl ⟨by rfl, ?_⟩) ?_ ?_
        rotate_left
        ·intro w'
         go_simp
         with_reducible rfl
        rotate_left
        ·exact aP
        refine pure_ (i := 4) (N := some 86) (v := ?_) (a' := ?_) #[tt, ff, tt, tt, tt, ff, ff] rfl rfl (by kernel_rfl) (fun _ _ _ h => h) (Or.inl ⟨by rfl, ?_⟩) ?_ ?_
        rotate_left
        ·intro w'
         go_simp
         with_reducible rfl
        rotate_left
        ·exact aP
        refine pure_ (i := 5) (N := some 87) (v := ?_) (a' := ?_) #[tt, ff, tt, tt, tt, tt, ff] rfl rfl (by kernel_rfl) (fun _ _ _ h => h) (Or.inl ⟨by rfl, ?_⟩) ?_ ?_
        rotate_left
        ·intro w'
         go_simp
         with_reducible rfl
        rotate_left
        ·exact aP
        refine one_ (i := 1) (N := some 83) #[tt, tt, tt, tt, tt, tt, ff] rfl rfl (by kernel_rfl) (by decide) (fun K hK => ?_)
        refine goes_ Tryd.func44 (by kernel_rfl) rfl #[.int .u64 (IntKind.u64.wrap (2288 + x8_3))] (by rfl) rfl rfl aO ?_
        with_reducible refine (withyref01_Put.calls k3 (IntKind.u64.wrap (2288 + x8_3)) t242 _ A51.out).mono ?_
        rintro e w60 ⟨rfl, hb⟩
        refine ⟨_, rfl, ?_⟩
        replace HB := as_ (below_step bA hb)
        (try clear hb)
        (try clear hb2)
        (try clear hk)
        (try clear hi)
        refine hK.out _ _ trivial (fun hHeld => ?_)
        clear hK K
        refine norm_ (a' := ?_) ?_ ?_
        rotate_left
        ·show Act.put _ (some 83) _ = _
         simp only [Act.put, List.setIfInBounds_toArray, List.set_cons_zero, List.set_cons_succ, i64_w, i32_w]
         rfl
        refine pure_ (i := 6) (N := some 88) (v := ?_) (a' := ?_) #[tt, tt, tt, tt, tt, tt, tt] rfl rfl (by kernel_rfl) (fun _ _ _ h => h) (Or.inl ⟨by rfl, ?_⟩) ?_ ?_
        rotate_left
        ·intro w'
         go_simp
         with_reducible rfl
        rotate_left
        ·exact aP
        refine done_ (by kernel_rfl) ?_
        try go_wp2
        go_ret3
        exact ⟨by first | rfl | (simp [errW_none, errW_some] <;> rfl) | (simp only [← hjs55]; first | rfl | (simp [errW_none, errW_some] <;> rfl)) | (simp [*, errW_none, errW_some] <;> rfl), by repeat (first | (with_reducible first | exact HB.out | apply below_alloc | apply pw_below_drewN | apply below_drew1) | exact HB.out)⟩
       rw [if_pos c56] at H
       have c56b0 : (t242.toList == (js55).toList) = true := beq_iff_eq.mpr c56
       have c56b1 : (t242.toList != (js55).toList) = false := bne_eq_false_iff_eq.mpr c56
       clear c56
       simp only [Option.some.injEq, Prod.mk.injEq] at H
       obtain ⟨rfl, rfl, rfl⟩ := H
       have p23 : 0 ≤ (a1 : Int) := of_decide_eq_true aM
       have q23 : a1 < (a0.size : Int) := of_decide_eq_true aM
       have hx23 := bt_at a0 a1
       replace p23 := eq_true p23
       replace q23 := eq_true q23
       have p36 : 0 ≤ (a1 : Int) := of_decide_eq_true aM
       have q36 : a1 < (a0.size : Int) := of_decide_eq_true aM
       have hx36 := bt_at a0 a1
       replace p36 := eq_true p36
       replace q36 := eq_true q36
       have p49 : 0 ≤ (a1 : Int) := of_decide_eq_true aM
       have q49 : a1 < (a0.size : Int) := of_decide_eq_true aM
       have hx49 := bt_at a0 a1
       replace p49 := eq_true p49
       replace q49 := eq_true q49
       try go_wp2
       replace HB := as_ (below_drew1 HB.out)
       refine start_ (n := 7) (S := fun w' => True) (ds := []) #[ff, ff, ff, ff, ff, ff, ff] (by kernel_rfl) rfl rfl trivial (fun hHeld => ?_)
       generalize wr.drew = w57 at HB hHeld ⊢
       refine pure_ (i := 0) (N := some 82) (v := ?_) (a' := ?_) #[tt, ff, ff, ff, ff, ff, ff] rfl rfl (by kernel_rfl) (fun _ _ _ h => h) (Or.inl ⟨by rfl, ?_⟩) ?_ ?_
       rotate_left
       ·intro w'
        go_simp
        with_reducible rfl
       rotate_left
       ·exact aP
       refine pure_ (i := 2) (N := some 84) (v := ?_) (a' := ?_) #[tt, ff, tt, ff, ff, ff, ff] rfl rfl (by kernel_rfl) (fun _ _ _ h => h) (Or.inl ⟨by rfl, ?_⟩) ?_ ?_
       rotate_left
       ·intro w'
        go_simp
        with_reducible rfl
       rotate_left
       ·exact aP
       refine pure_ (i := 3) (N := some 85) (v := ?_) (a' := ?_) #[tt, ff, tt, tt, ff, ff, ff] rfl rfl (by kernel_rfl) (fun _ _ _ h => h) (Or.inl ⟨by rfl, ?_⟩) ?_ ?_
       rotate_left
       ·intro w'
        go_simp
        with_reducible rfl
       rotate_left
       ·exact aP
       refine pure_ (i := 4) (N := some 86) (v := ?_) (a' := ?_) #[tt, ff, tt, tt, tt, ff, ff] rfl rfl (by kernel_rfl) (fun _ _ _ h => h) (Or.inl ⟨by rfl, ?_⟩) ?_ ?_
       rotate_left
       ·intro w'
        go_simp
        with_reducible rfl
       rotate_left
       ·exact aP
       refine pure_ (i := 5) (N := some 87) (v := ?_) (a' := ?_) #[tt, ff, tt, tt, tt, tt, ff] rfl rfl (by kernel_rfl) (fun _ _ _ h => h) (Or.inl ⟨by rfl, ?_⟩) ?_ ?_
       rotate_left
       ·intro w'
        go_simp
        with_reducible rfl
       rotate_left
       ·exact aP
       refine one_ (i := 1) (N := some 83) #[tt, tt, tt, tt, tt, tt, ff] rfl rfl (by kernel_rfl) (by decide) (fun K hK => ?_)
       refine goes_ Tryd.func44 (by kernel_rfl) rfl #[.int .u64 (IntKind.u64.wrap (2288 + x8_3))] (by rfl) rfl rfl aO ?_
       with_reducible refine (withyref01_Put.calls k3 (IntKind.u64.wrap (2288 + x8_3)) t242 _ A51.out).mono ?_
       rintro e w58 ⟨rfl, hb⟩
       refine ⟨_, rfl, ?_⟩
       replace HB := as_ (below_step bA hb)
       (try clear hb)
       (try clear hb2)
       (try clear hk)
       (try clear hi)
       refine hK.out _ _ trivial (fun hHeld => ?_)
       clear hK K
       refine norm_ (a' := ?_) ?_ ?_
       rotate_left
       ·show Act.put _ (some 83) _ = _
        simp only [Act.put, List.setIfInBounds_toArray, List.set_cons_zero, List.set_cons_succ, i64_w, i32_w]
        rfl
       refine pure_ (i := 6) (N := some 88) (v := ?_) (a' := ?_) #[tt, tt, tt, tt, tt, tt, tt] rfl rfl (by kernel_rfl) (fun _ _ _ h => h) (Or.inl ⟨by rfl, ?_⟩) ?_ ?_
       rotate_left
       ·intro w'
        go_simp
        with_reducible rfl
       rotate_left
       ·exact aP
       refine done_ (by kernel_rfl) ?_
       try go_wp2
       go_ret3
       exact ⟨by first | rfl | (simp [errW_none, errW_some] <;> rfl) | (simp only [← hjs55]; first | rfl | (simp [errW_none, errW_some] <;> rfl)) | (simp [*, errW_none, errW_some] <;> rfl), by repeat (first | (with_reducible first | exact HB.out | apply below_alloc | apply pw_below_drewN | apply below_drew1) | exact HB.out)⟩
end Go.Proofs.YthaicofleloplaaDoor.P
