/- What is proved here: for functions of the Go text, a Lean function each, and that the call comes to just what it answers. Conditions: as each contract names them. Written by wip/tools/myprint.py, a driver of the print of the kit. -/
import Derived.Test.YtafebmhmcdnhkaaGreatP0
import Derived.Test.YtafebmhmcdnhkaaGreatP4
import Derived.Test.YtafebmhmcdnhkaaGreatP7
import Derived.Test.YtafebmhmcdnhkaaGreatWAbbr
namespace Go.Proofs.YtafebmhmcdnhkaaGreat.P
open Go.RowKit Go.Proofs.YtafebmhmcdnhkaaGreatW.PrintWords Go.Proofs.YtafebmhmcdnhkaaGreatW.PrintLast Go.Proofs.YtafebmhmcdnhkaaGreatW.PrintMore Go.Proofs.YtafebmhmcdnhkaaGreatW.Abbr
-- PACKED
attribute [local go_sem] max2_int min2_int max_two min_two max_three min_three max_four min_four Go.Proofs.YtafebmhmcdnhkaaGreatLaws.str_leq Go.Proofs.YtafebmhmcdnhkaaGreatLaws.str_gtr Go.Proofs.YtafebmhmcdnhkaaGreatLaws.str_geq Go.Proofs.YtafebmhmcdnhkaaGreatLaws.max2_str Go.Proofs.YtafebmhmcdnhkaaGreatLaws.min2_str   -- for this text's walks alone
set_option linter.unusedVariables false
set_option linter.unusedSimpArgs false

/-! ### word_Get: function 79 -/
mutual
def word_Get.j0 : Nat → ByteArray → Int → Bool → Option (Int × Int × Int)
 | 0, _, _, _ => none
 | k + 1, x0, x1, x19 => if x19 = true then (some (0, 0, 4)) else (if x1 = (x0.size : Int) then (word_Get.j1 k x0 x1 true) else (if 0 ≤ x1 then (if x1 < (x0.size : Int) then ((word_more.f (bt x0 x1)).bind fun t262 => (word_Get.j1 k x0 x1 (decide ((wrap64 ((wrap64 ((x0.size : Int) - x1)) - 1)) < t262)))) else (none)) else (none)))
def word_Get.j1 : Nat → ByteArray → Int → Bool → Option (Int × Int × Int)
 | 0, _, _, _ => none
 | k + 1, x0, x1, x35 => if x35 = true then (some (0, 0, 7)) else (if 0 ≤ x1 then (if x1 < (x0.size : Int) then ((word_more.f (bt x0 x1)).bind fun t263 => (word_Get.l0 k x0 x1 t263 0 t263 0)) else (none)) else (none))
def word_Get.l0 : Nat → ByteArray → Int → Int → Int → Int → Int → Option (Int × Int × Int)
 | 0, _, _, _, _, _, _ => none
 | k + 1, x0, x1, x7, x8, x40, x41 => if x41 < x40 then (if 0 ≤ (wrap64 ((wrap64 (x1 + 1)) + x41)) then (if (wrap64 ((wrap64 (x1 + 1)) + x41)) < (x0.size : Int) then (word_Get.l0 k x0 x1 x7 (Go.bits .or .u64 (IntKind.u64.wrap (x8 * 256)) (IntKind.u64.wrap (bt x0 (wrap64 ((wrap64 (x1 + 1)) + x41))))) x40 (wrap64 (x41 + 1))) else (none)) else (none)) else (if 0 ≤ x1 then (if x1 < (x0.size : Int) then (if x7 = 0 then ((word_Put.f k (IntKind.u64.wrap (bt x0 x1))).bind fun t264 => (if x1 ≤ (wrap64 ((wrap64 (x1 + 1)) + x7)) then (if (wrap64 ((wrap64 (x1 + 1)) + x7)) ≤ (x0.size : Int) then (if t264.toList = (x0.extract (x1 : Int).toNat ((wrap64 ((wrap64 (x1 + 1)) + x7)) : Int).toNat).toList then (some (IntKind.u64.wrap (bt x0 x1), wrap64 ((wrap64 (x1 + 1)) + x7), 0)) else (some (0, 0, 3))) else (none)) else (none))) else (if x7 = 1 then ((word_Put.f k (IntKind.u64.wrap (x8 + (240 + ((((bt x0 x1) - 241) % 256) * 256))))).bind fun t265 => (if x1 ≤ (wrap64 ((wrap64 (x1 + 1)) + x7)) then (if (wrap64 ((wrap64 (x1 + 1)) + x7)) ≤ (x0.size : Int) then (if t265.toList = (x0.extract (x1 : Int).toNat ((wrap64 ((wrap64 (x1 + 1)) + x7)) : Int).toNat).toList then (some (IntKind.u64.wrap (x8 + (240 + ((((bt x0 x1) - 241) % 256) * 256))), wrap64 ((wrap64 (x1 + 1)) + x7), 0)) else (some (0, 0, 3))) else (none)) else (none))) else (if x7 = 2 then ((word_Put.f k (IntKind.u64.wrap (x8 + 2288))).bind fun t266 => (if x1 ≤ (wrap64 ((wrap64 (x1 + 1)) + x7)) then (if (wrap64 ((wrap64 (x1 + 1)) + x7)) ≤ (x0.size : Int) then (if t266.toList = (x0.extract (x1 : Int).toNat ((wrap64 ((wrap64 (x1 + 1)) + x7)) : Int).toNat).toList then (some (IntKind.u64.wrap (x8 + 2288), wrap64 ((wrap64 (x1 + 1)) + x7), 0)) else (some (0, 0, 3))) else (none)) else (none))) else ((word_Put.f k x8).bind fun t267 => (if x1 ≤ (wrap64 ((wrap64 (x1 + 1)) + x7)) then (if (wrap64 ((wrap64 (x1 + 1)) + x7)) ≤ (x0.size : Int) then (if t267.toList = (x0.extract (x1 : Int).toNat ((wrap64 ((wrap64 (x1 + 1)) + x7)) : Int).toNat).toList then (some (x8, wrap64 ((wrap64 (x1 + 1)) + x7), 0)) else (some (0, 0, 3))) else (none)) else (none)))))) else (none)) else (none))
end
def word_Get.f (k : Nat) (a0 : ByteArray) (a1 : Int) : Option (Int × Int × Int) := if a1 < 0 then (word_Get.j0 k a0 a1 true) else (word_Get.j0 k a0 a1 (decide (a1 > (a0.size : Int))))
theorem word_Get.mono_l : ∀ k, (∀ y0 y1 y2, LeO (word_Get.j0 k y0 y1 y2) (word_Get.j0 (k + 1) y0 y1 y2)) ∧ (∀ y0 y1 y2, LeO (word_Get.j1 k y0 y1 y2) (word_Get.j1 (k + 1) y0 y1 y2)) ∧ (∀ y0 y1 y2 y3 y4 y5, LeO (word_Get.l0 k y0 y1 y2 y3 y4 y5) (word_Get.l0 (k + 1) y0 y1 y2 y3 y4 y5))
 | 0 => ⟨fun _ _ _ r h => by simp [word_Get.j0] at h, fun _ _ _ r h => by simp [word_Get.j1] at h, fun _ _ _ _ _ _ r h => by simp [word_Get.l0] at h⟩
 | k + 1 => by
  obtain ⟨ih0, ih1, ih2⟩ := word_Get.mono_l k
  refine ⟨?_, ?_, ?_⟩
  ·intro y0 y1 y2
   unfold word_Get.j0
   repeat' first
   | (with_reducible exact ih0 _ _ _)
   | (with_reducible exact ih1 _ _ _)
   | (with_reducible exact ih2 _ _ _ _ _ _)
   | (with_reducible exact word_Put.mono _ _)
   | (with_reducible exact LeO.refl _)
   | (with_reducible exact LeO.none _)
   | (with_reducible refine LeO.ite ?_ ?_)
   | (with_reducible refine LeO.bind ?_ (fun _ => ?_))
   | exact ih0 _ _ _
   | exact ih1 _ _ _
   | exact ih2 _ _ _ _ _ _
   | exact word_Put.mono _ _
   | exact LeO.none _
   | refine LeO.ite ?_ ?_
   | refine LeO.bind ?_ (fun _ => ?_)
  ·intro y0 y1 y2
   unfold word_Get.j1
   repeat' first
   | (with_reducible exact ih0 _ _ _)
   | (with_reducible exact ih1 _ _ _)
   | (with_reducible exact ih2 _ _ _ _ _ _)
   | (with_reducible exact word_Put.mono _ _)
   | (with_reducible exact LeO.refl _)
   | (with_reducible exact LeO.none _)
   | (with_reducible refine LeO.ite ?_ ?_)
   | (with_reducible refine LeO.bind ?_ (fun _ => ?_))
   | exact ih0 _ _ _
   | exact ih1 _ _ _
   | exact ih2 _ _ _ _ _ _
   | exact word_Put.mono _ _
   | exact LeO.none _
   | refine LeO.ite ?_ ?_
   | refine LeO.bind ?_ (fun _ => ?_)
  ·intro y0 y1 y2 y3 y4 y5
   unfold word_Get.l0
   repeat' first
   | (with_reducible exact ih0 _ _ _)
   | (with_reducible exact ih1 _ _ _)
   | (with_reducible exact ih2 _ _ _ _ _ _)
   | (with_reducible exact word_Put.mono _ _)
   | (with_reducible exact LeO.refl _)
   | (with_reducible exact LeO.none _)
   | (with_reducible refine LeO.ite ?_ ?_)
   | (with_reducible refine LeO.bind ?_ (fun _ => ?_))
   | exact ih0 _ _ _
   | exact ih1 _ _ _
   | exact ih2 _ _ _ _ _ _
   | exact word_Put.mono _ _
   | exact LeO.none _
   | refine LeO.ite ?_ ?_
   | refine LeO.bind ?_ (fun _ => ?_)
theorem word_Get.mono : ∀ a0 a1 k, LeO (word_Get.f k a0 a1) (word_Get.f (k + 1) a0 a1) := by
 intro a0 a1 k
 obtain ⟨ih0, ih1, ih2⟩ := word_Get.mono_l k
 unfold word_Get.f
 repeat' first
   | (with_reducible exact ih0 _ _ _)
   | (with_reducible exact ih1 _ _ _)
   | (with_reducible exact ih2 _ _ _ _ _ _)
   | (with_reducible exact word_Put.mono _ _)
   | (with_reducible exact LeO.refl _)
   | (with_reducible exact LeO.none _)
   | (with_reducible refine LeO.ite ?_ ?_)
   | (with_reducible refine LeO.bind ?_ (fun _ => ?_))
   | exact ih0 _ _ _
   | exact ih1 _ _ _
   | exact ih2 _ _ _ _ _ _
   | exact word_Put.mono _ _
   | exact LeO.none _
   | refine LeO.ite ?_ ?_
   | refine LeO.bind ?_ (fun _ => ?_)
set_option maxHeartbeats 8000000 in
set_option maxRecDepth 100000 in
theorem word_Get.calls (k : Nat) (a0 : ByteArray) (a1 : Int) (r1 : Int) (r2 : Int) (r3 : Int) (w : World) (h : word_Get.f k a0 a1 = some (r1, r2, r3)) :
  Calls Tryz.prog 79 #[.string a0, .int .i64 a1] w fun e w' => e = .returned (.tuple #[.int .u64 r1, .int .i64 r2, .int .i64 r3]) ∧ Below w.heap.size w w' := by
 have HB := as_ (Below.refl w.heap.size w)
 have H : (if a1 < 0 then (word_Get.j0 k a0 a1 true) else (word_Get.j0 k a0 a1 (decide (a1 > (a0.size : Int))))) = some (r1, r2, r3) := h
 clear h
 have HC3 := Aside0.mk H
 clear H
 go_enter Tryz.func79, Tryz.ntmps79
 go_upto_region 1 with (fail)
 go_cut [19] (fun v19 wc => ∃ (kq : Nat) (x19_2 : Bool), v19 = .bool x19_2 ∧ Aside0 (word_Get.j0 kq a0 a1 x19_2 = some (r1, r2, r3)) ∧ Aside0 (kq ≤ k) ∧ Aside0 (Below w.heap.size w wc))
 case first =>
  have H := HC3.out
  clear HC3
  by_cases c4 : a1 < 0
  rotate_left
  ·rw [if_neg c4] at H
   have c4b0 : decide (a1 < 0) = false := decide_eq_false c4
   clear c4
   (first | rw [c4b0] | (simp only [i64_w, i32_w]; rw [c4b0]) | rw [c4b1] | skip)
   have H' := Aside0.mk H
   clear H
   go_wp2
   go_meet
   case rel => exact ⟨_, (decide (a1 > (a0.size : Int))), (by first | rfl | (simp; done) | (simp [*]; done)), H', ⟨by first | omega | exact Nat.le_refl _⟩, ⟨bA⟩⟩
  rw [if_pos c4] at H
  have c4b0 : decide (a1 < 0) = true := decide_eq_true c4
  clear c4
  (first | rw [c4b0] | (simp only [i64_w, i32_w]; rw [c4b0]) | rw [c4b1] | skip)
  have H' := Aside0.mk H
  clear H
  go_wp2
  go_meet
  case rel => exact ⟨_, (true), (by first | rfl | (simp; done) | (simp [*]; done)), H', ⟨by first | omega | exact Nat.le_refl _⟩, ⟨bA⟩⟩
 case rest =>
  clear HC3
  try clear p2
  try clear c4
  try clear c4b0
  try clear c4b1
  obtain ⟨kq, x19_2, rfl, HA, HJ2, HB⟩ := hcut
  cases kq with
  | zero => exact absurd HA.out (by simp [word_Get.j0])
  | succ kj2 =>
   have H := HA.out
   clear HA
   simp only [word_Get.j0] at H
   by_cases c5 : x19_2 = true
   ·subst c5
    have H1 : (some (0, 0, 4)) = some (r1, r2, r3) := by rw [if_pos rfl] at H; exact H
    clear H
    have H := H1
    clear H1
    simp only [Option.some.injEq, Prod.mk.injEq] at H
    obtain ⟨rfl, rfl, rfl⟩ := H
    go_wp2
    go_ret3
    exact ⟨eW, bA⟩
   replace c5 := Bool.eq_false_iff.mpr c5
   subst c5
   have H1 : (if a1 = (a0.size : Int) then (word_Get.j1 kj2 a0 a1 true) else (if 0 ≤ a1 then (if a1 < (a0.size : Int) then ((word_more.f (bt a0 a1)).bind fun t262 => (word_Get.j1 kj2 a0 a1 (decide ((wrap64 ((wrap64 ((a0.size : Int) - a1)) - 1)) < t262)))) else (none)) else (none))) = some (r1, r2, r3) := by rw [if_neg (show ¬ (false = true) by decide)] at H; exact H
   clear H
   have H := H1
   clear H1
   have HC6 := Aside0.mk H
   clear H
   go_upto_region 3 with (fail)
   go_cut [35] (fun v35 wc => ∃ (kq : Nat) (x35_5 : Bool), v35 = .bool x35_5 ∧ Aside0 (word_Get.j1 kq a0 a1 x35_5 = some (r1, r2, r3)) ∧ Aside0 (kq ≤ kj2) ∧ Aside0 (Below w.heap.size w wc))
   case first =>
    have H := HC6.out
    clear HC6
    by_cases c7 : a1 = (a0.size : Int)
    ·rw [if_pos c7] at H
     have c7b0 : (a1 == (a0.size : Int)) = true := beq_iff_eq.mpr c7
     have c7b1 : (a1 != (a0.size : Int)) = false := bne_eq_false_iff_eq.mpr c7
     clear c7
     (first | rw [c7b0] | (simp only [i64_w, i32_w]; rw [c7b0]) | rw [c7b1] | skip)
     have H' := Aside0.mk H
     clear H
     go_wp2
     go_meet
     case rel => exact ⟨_, (true), (by first | rfl | (simp; done) | (simp [*]; done)), H', ⟨by have := HJ2.out; first | omega | exact Nat.le_refl _⟩, ⟨bA⟩⟩
    rw [if_neg c7] at H
    have c7b0 : (a1 == (a0.size : Int)) = false := beq_eq_false_iff_ne.mpr c7
    have c7b1 : (a1 != (a0.size : Int)) = true := bne_iff_ne.mpr c7
    (first | rw [c7b0] | (simp only [i64_w, i32_w]; rw [c7b0]) | rw [c7b1] | skip)
    obtain ⟨c8, H⟩ := iN (c := 0 ≤ a1) H
    have c8b0 : decide (0 ≤ a1) = true := decide_eq_true c8
    clear c8
    obtain ⟨c9, H⟩ := iN (c := a1 < (a0.size : Int)) H
    have c9b0 : decide (a1 < (a0.size : Int)) = true := decide_eq_true c9
    clear c9
    obtain ⟨t262, A11, H⟩ := bN H
    (try dsimp only at H)
    have H' := Aside0.mk H
    clear H
    have p10 : 0 ≤ (a1 : Int) := of_decide_eq_true aM
    have q10 : a1 < (a0.size : Int) := of_decide_eq_true aM
    have hx10 := bt_at a0 a1
    replace p10 := eq_true p10
    replace q10 := eq_true q10
    go_wp2_with (first | (go_at_call 106; (with_reducible refine (word_more.calls (bt a0 a1) t262 _ A11.out).mono ?_); rintro e w' ⟨rfl, ⟨nd, rfl⟩⟩))
    go_meet
    case rel => exact ⟨_, (decide ((wrap64 ((wrap64 ((a0.size : Int) - a1)) - 1)) < t262)), (by first | rfl | (simp; done) | (simp [*]; done)), H', ⟨by have := HJ2.out; first | omega | exact Nat.le_refl _⟩, ⟨bA⟩⟩
   case rest =>
    clear HC6
    try clear p1
    try clear q1
    try clear hx1
    try clear p2
    try clear c4
    try clear c4b0
    try clear c4b1
    try clear c5
    try clear p6
    try clear c7
    try clear c7b0
    try clear c7b1
    try clear c8
    try clear c8b0
    try clear c9
    try clear c9b0
    try clear p10
    try clear q10
    try clear hx10
    try clear p10
    try clear p2
    try clear q10
    obtain ⟨kq, x35_5, rfl, HA, HJ5, HB⟩ := hcut
    cases kq with
    | zero => exact absurd HA.out (by simp [word_Get.j1])
    | succ kj5 =>
     have H := HA.out
     clear HA
     simp only [word_Get.j1] at H
     by_cases c12 : x35_5 = true
     ·subst c12
      have H1 : (some (0, 0, 7)) = some (r1, r2, r3) := by rw [if_pos rfl] at H; exact H
      clear H
      have H := H1
      clear H1
      simp only [Option.some.injEq, Prod.mk.injEq] at H
      obtain ⟨rfl, rfl, rfl⟩ := H
      go_wp2
      go_ret3
      exact ⟨eW, bA⟩
     replace c12 := Bool.eq_false_iff.mpr c12
     subst c12
     have H1 : (if 0 ≤ a1 then (if a1 < (a0.size : Int) then ((word_more.f (bt a0 a1)).bind fun t263 => (word_Get.l0 kj5 a0 a1 t263 0 t263 0)) else (none)) else (none)) = some (r1, r2, r3) := by rw [if_neg (show ¬ (false = true) by decide)] at H; exact H
     clear H
     have H := H1
     clear H1
     obtain ⟨c13, H⟩ := iN (c := 0 ≤ a1) H
     have c13b0 := decide_eq_true c13
     clear c13
     obtain ⟨c14, H⟩ := iN (c := a1 < (a0.size : Int)) H
     have c14b0 := decide_eq_true c14
     clear c14
     obtain ⟨t263, A16, H⟩ := bN H
     (try dsimp only at H)
     have H' := Aside0.mk H
     clear H
     have p15 : 0 ≤ (a1 : Int) := of_decide_eq_true aM
     have q15 : a1 < (a0.size : Int) := of_decide_eq_true aM
     have hx15 := bt_at a0 a1
     replace p15 := eq_true p15
     replace q15 := eq_true q15
     go_wp2_with (first | ((with_reducible refine gate_callee (f := 106) rfl ?_); refine goesL_ (some 39) rfl rfl Tryz.func106 (by kernel_rfl) rfl #[.int .u8 (bt a0 a1)] rfl aO ?_; (with_reducible refine (word_more.calls (bt a0 a1) t263 _ A16.out).mono ?_); rintro e w' ⟨rfl, ⟨nd, rfl⟩⟩; refine ⟨_, rfl, ?_⟩))
     go_loopg [8, 41] kj5 (fun kq v8 v41 w' => ∃ (x8_3 : Int) (x41_3 : Int), v8 = .int .u64 x8_3 ∧ v41 = .int .i64 x41_3 ∧ Aside0 (word_Get.l0 kq a0 a1 t263 x8_3 t263 x41_3 = some (r1, r2, r3)) ∧ Aside0 (kq ≤ kj5) ∧ Aside0 (Below w.heap.size w w'))
     case atStart => exact ⟨(0), (0), (by first | rfl | (simp; done) | (simp [*]; done)), (by first | rfl | (simp; done) | (simp [*]; done)), H', ⟨Nat.le_refl _⟩, ⟨bA⟩⟩
     case round =>
      clear H'
      try clear c1
      try clear p1
      try clear q1
      try clear hx1
      try clear p2
      try clear c4
      try clear c4b0
      try clear c4b1
      try clear c5
      try clear p6
      try clear c7
      try clear c7b0
      try clear c7b1
      try clear c8
      try clear c8b0
      try clear c9
      try clear c9b0
      try clear c10
      try clear p10
      try clear q10
      try clear hx10
      try clear c12
      try clear c13
      try clear c13b0
      try clear c14
      try clear c14b0
      try clear p15
      try clear q15
      try clear hx15
      try clear p1
      try clear p10
      try clear p15
      try clear p2
      try clear p6
      try clear q1
      try clear q10
      try clear q15
      obtain ⟨x8_3, x41_3, rfl, rfl, HA, HK3, HB⟩ := hrel
      cases gk with
      | zero => exact absurd HA.out (by simp [word_Get.l0])
      | succ k3 =>
       have H := HA.out
       clear HA
       simp only [word_Get.l0] at H
       by_cases c17 : x41_3 < t263
       ·rw [if_pos c17] at H
        have c17b0 := decide_eq_true c17
        clear c17
        obtain ⟨ji18, hji18⟩ : ∃ j_ : Int, (wrap64 ((wrap64 (a1 + 1)) + x41_3)) = j_ := ⟨_, rfl⟩
        replace H : (if 0 ≤ (ji18) then (if (ji18) < (a0.size : Int) then (word_Get.l0 k3 a0 a1 t263 (Go.bits .or .u64 (IntKind.u64.wrap (x8_3 * 256)) (IntKind.u64.wrap (bt a0 (ji18)))) t263 (wrap64 (x41_3 + 1))) else (none)) else (none)) = some (r1, r2, r3) := by first | (rw [hji18] at H; exact H) | (simp only [hji18] at H ⊢; exact H)
        have hji18w : (IntKind.i64.wrap ((wrap64 (a1 + 1)) + x41_3)) = ji18 := (i64_w _).trans hji18
        obtain ⟨c19, H⟩ := iN (c := 0 ≤ (ji18)) H
        have c19b0 := decide_eq_true c19
        clear c19
        obtain ⟨c20, H⟩ := iN (c := (ji18) < (a0.size : Int)) H
        have c20b0 := decide_eq_true c20
        clear c20
        have H' := Aside0.mk H
        clear H
        have p21 : 0 ≤ ((ji18) : Int) := of_decide_eq_true aM
        have q21 : (ji18) < (a0.size : Int) := of_decide_eq_true aM
        have hx21 := bt_at a0 (ji18)
        replace p21 := eq_true p21
        replace q21 := eq_true q21
        go_wp2
        go_roundg k3
        case measure => have := HJ2.out; have := HJ5.out; have := HK3.out; omega
        case rel => exact ⟨(Go.bits .or .u64 (IntKind.u64.wrap (x8_3 * 256)) (IntKind.u64.wrap (bt a0 (ji18)))), (wrap64 (x41_3 + 1)), (by first | rfl | (simp; done) | (simp only [← hji18] <;> (first | rfl | simp)) | (simp [*]; done)), (by first | rfl | (simp; done) | (simp [*]; done)), H', ⟨by have := HJ2.out; have := HJ5.out; have := HK3.out; omega⟩, ⟨bA⟩⟩
       rw [if_neg c17] at H
       have c17b0 := decide_eq_false c17
       clear c17
       obtain ⟨c22, H⟩ := iN (c := 0 ≤ a1) H
       have c22b0 := decide_eq_true c22
       clear c22
       obtain ⟨c23, H⟩ := iN (c := a1 < (a0.size : Int)) H
       have c23b0 := decide_eq_true c23
       clear c23
       by_cases c25 : t263 = 0
       ·rw [if_pos c25] at H
        have c25b0 := beq_iff_eq.mpr c25
        have c25b1 := bne_eq_false_iff_eq.mpr c25
        clear c25
        obtain ⟨t264, A26, H⟩ := bN H
        (try dsimp only at H)
        have c27b0 := eq_true (of_decide_eq_true aM : 0 ≤ a1)
        obtain ⟨c28, H⟩ := iN (c := a1 ≤ (wrap64 ((wrap64 (a1 + 1)) + t263))) H
        have c28b0 := eq_true c28
        have c28b1 := decide_eq_true c28
        obtain ⟨c29, H⟩ := iN (c := (wrap64 ((wrap64 (a1 + 1)) + t263)) ≤ (a0.size : Int)) H
        have c29b0 := eq_true c29
        have c29b1 := decide_eq_true c29
        obtain ⟨js30, hjs30⟩ : ∃ j_ : ByteArray, (a0.extract (a1 : Int).toNat ((wrap64 ((wrap64 (a1 + 1)) + t263)) : Int).toNat) = j_ := ⟨_, rfl⟩
        replace H : (if t264.toList = (js30).toList then (some (IntKind.u64.wrap (bt a0 a1), wrap64 ((wrap64 (a1 + 1)) + t263), 0)) else (some (0, 0, 3))) = some (r1, r2, r3) := by first | (rw [hjs30] at H; exact H) | (simp only [hjs30] at H ⊢; exact H)
        (try rw [hjs30] at A26)
        by_cases c31 : t264.toList = (js30).toList
        rotate_left
        ·rw [if_neg c31] at H
         have c31b0 := beq_eq_false_iff_ne.mpr c31
         have c31b1 := bne_iff_ne.mpr c31
         simp only [Option.some.injEq, Prod.mk.injEq] at H
         obtain ⟨rfl, rfl, rfl⟩ := H
         have p24 : 0 ≤ (a1 : Int) := of_decide_eq_true aM
         have q24 : a1 < (a0.size : Int) := of_decide_eq_true aM
         have hx24 := bt_at a0 a1
         replace p24 := eq_true p24
         replace q24 := eq_true q24
         try go_wp2
         replace HB := as_ (below_drew1 HB.out)
         refine start_ (n := 7) (S := fun w' => True) (ds := []) #[ff, ff, ff, ff, ff, ff, ff] (by kernel_rfl) rfl rfl trivial (fun hHeld => ?_)
         generalize wr.drew = w34 at HB hHeld ⊢
         refine pure_ (i := 0) (N := some 82) (v := ?_) (a' := ?_) (mr [1, 6]) rfl rfl (by kernel_rfl) (fun _ _ _ h => h) (Or.inl ⟨by rfl, ?_⟩) ?_ ?_
         rotate_left
         ·intro w'
          go_simp
          with_reducible rfl
         rotate_left
         ·exact aP
         refine pure_ (i := 2) (N := some 84) (v := ?_) (a' := ?_) (mr [1, 1, 1, 4]) rfl rfl (by kernel_rfl) (fun _ _ _ h => h) (Or.inl ⟨by rfl, ?_⟩) ?_ ?_
         rotate_left
         ·intro w'
          go_simp
          with_reducible rfl
         rotate_left
         ·exact aP
         refine pure_ (i := 3) (N := some 85) (v := ?_) (a' := ?_) (mr [1, 1, 2, 3]) rfl rfl (by kernel_rfl) (fun _ _ _ h => h) (Or.inl ⟨by rfl, ?_⟩) ?_ ?_
         rotate_left
         ·intro w'
          go_simp
          with_reducible rfl
         rotate_left
         ·exact aP
         refine pure_ (i := 4) (N := some 86) (v := ?_) (a' := ?_) (mr [1, 1, 3, 2]) rfl rfl (by kernel_rfl) (fun _ _ _ h => h) (Or.inl ⟨by rfl, ?_⟩) ?_ ?_
         rotate_left
         ·intro w'
          go_simp
          with_reducible rfl
         rotate_left
         ·exact aP
         refine pure_ (i := 5) (N := some 87) (v := ?_) (a' := ?_) (mr [1, 1, 4, 1]) rfl rfl (by kernel_rfl) (fun _ _ _ h => h) (Or.inl ⟨by rfl, ?_⟩) ?_ ?_
         rotate_left
         ·intro w'
          go_simp
          with_reducible rfl
         rotate_left
         ·exact aP
         refine one_ (i := 1) (N := some 83) (mr [6, 1]) rfl rfl (by kernel_rfl) (by decide) (fun K hK => ?_)
         refine goes_ Tryz.func63 (by kernel_rfl) rfl #[.int .u64 (IntKind.u64.wrap (bt a0 a1))] (by rfl) rfl rfl aO ?_
         with_reducible refine (word_Put.calls k3 (IntKind.u64.wrap (bt a0 a1)) t264 _ A26.out).mono ?_
         rintro e w35 ⟨rfl, hb⟩
         refine ⟨_, rfl, ?_⟩
         replace HB := as_ (below_step bA hb)
         (try clear hb)
         (try clear hb2)
         (try clear hk)
         (try clear hi)
         refine hK.out _ _ trivial (fun hHeld => ?_)
         clear hK K
         refine nm_ (some 83) (h := ?_)
         refine pure_ (i := 6) (N := some 88) (v := ?_) (a' := ?_) (mr [7]) rfl rfl (by kernel_rfl) (fun _ _ _ h => h) (Or.inl ⟨by rfl, ?_⟩) ?_ ?_
         rotate_left
         ·intro w'
          go_simp
          with_reducible rfl
         rotate_left
         ·exact aP
         refine done_ (by kernel_rfl) ?_
         try go_wp2
         go_ret3
         exact ⟨by first | rfl | (simp [errW_none, errW_some] <;> rfl) | (simp only [← hjs30]; first | rfl | (simp [errW_none, errW_some] <;> rfl)) | (simp [*, errW_none, errW_some] <;> rfl), bA⟩
        rw [if_pos c31] at H
        have c31b0 := beq_iff_eq.mpr c31
        have c31b1 := bne_eq_false_iff_eq.mpr c31
        clear c31
        simp only [Option.some.injEq, Prod.mk.injEq] at H
        obtain ⟨rfl, rfl, rfl⟩ := H
        have p24 : 0 ≤ (a1 : Int) := of_decide_eq_true aM
        have q24 : a1 < (a0.size : Int) := of_decide_eq_true aM
        have hx24 := bt_at a0 a1
        replace p24 := eq_true p24
        replace q24 := eq_true q24
        try go_wp2
        replace HB := as_ (below_drew1 HB.out)
        refine start_ (n := 7) (S := fun w' => True) (ds := []) #[ff, ff, ff, ff, ff, ff, ff] (by kernel_rfl) rfl rfl trivial (fun hHeld => ?_)
        generalize wr.drew = w32 at HB hHeld ⊢
        refine pure_ (i := 0) (N := some 82) (v := ?_) (a' := ?_) (mr [1, 6]) rfl rfl (by kernel_rfl) (fun _ _ _ h => h) (Or.inl ⟨by rfl, ?_⟩) ?_ ?_
        rotate_left
        ·intro w'
         go_simp
         with_reducible rfl
        rotate_left
        ·exact aP
        refine pure_ (i := 2) (N := some 84) (v := ?_) (a' := ?_) (mr [1, 1, 1, 4]) rfl rfl (by kernel_rfl) (fun _ _ _ h => h) (Or.inl ⟨by rfl, ?_⟩) ?_ ?_
        rotate_left
        ·intro w'
         go_simp
         with_reducible rfl
        rotate_left
        ·exact aP
        refine pure_ (i := 3) (N := some 85) (v := ?_) (a' := ?_) (mr [1, 1, 2, 3]) rfl rfl (by kernel_rfl) (fun _ _ _ h => h) (Or.inl ⟨by rfl, ?_⟩) ?_ ?_
        rotate_left
        ·intro w'
         go_simp
         with_reducible rfl
        rotate_left
        ·exact aP
        refine pure_ (i := 4) (N := some 86) (v := ?_) (a' := ?_) (mr [1, 1, 3, 2]) rfl rfl (by kernel_rfl) (fun _ _ _ h => h) (Or.inl ⟨by rfl, ?_⟩) ?_ ?_
        rotate_left
        ·intro w'
         go_simp
         with_reducible rfl
        rotate_left
        ·exact aP
        refine pure_ (i := 5) (N := some 87) (v := ?_) (a' := ?_) (mr [1, 1, 4, 1]) rfl rfl (by kernel_rfl) (fun _ _ _ h => h) (Or.inl ⟨by rfl, ?_⟩) ?_ ?_
        rotate_left
        ·intro w'
         go_simp
         with_reducible rfl
        rotate_left
        ·exact aP
        refine one_ (i := 1) (N := some 83) (mr [6, 1]) rfl rfl (by kernel_rfl) (by decide) (fun K hK => ?_)
        refine goes_ Tryz.func63 (by kernel_rfl) rfl #[.int .u64 (IntKind.u64.wrap (bt a0 a1))] (by rfl) rfl rfl aO ?_
        with_reducible refine (word_Put.calls k3 (IntKind.u64.wrap (bt a0 a1)) t264 _ A26.out).mono ?_
        rintro e w33 ⟨rfl, hb⟩
        refine ⟨_, rfl, ?_⟩
        replace HB := as_ (below_step bA hb)
        (try clear hb)
        (try clear hb2)
        (try clear hk)
        (try clear hi)
        refine hK.out _ _ trivial (fun hHeld => ?_)
        clear hK K
        refine nm_ (some 83) (h := ?_)
        refine pure_ (i := 6) (N := some 88) (v := ?_) (a' := ?_) (mr [7]) rfl rfl (by kernel_rfl) (fun _ _ _ h => h) (Or.inl ⟨by rfl, ?_⟩) ?_ ?_
        rotate_left
        ·intro w'
         go_simp
         with_reducible rfl
        rotate_left
        ·exact aP
        refine done_ (by kernel_rfl) ?_
        try go_wp2
        go_ret3
        exact ⟨by first | rfl | (simp [errW_none, errW_some] <;> rfl) | (simp only [← hjs30]; first | rfl | (simp [errW_none, errW_some] <;> rfl)) | (simp [*, errW_none, errW_some] <;> rfl), bA⟩
       rw [if_neg c25] at H
       have c25b0 := beq_eq_false_iff_ne.mpr c25
       have c25b1 := bne_iff_ne.mpr c25
       by_cases c36 : t263 = 1
       ·rw [if_pos c36] at H
        have c36b0 := beq_iff_eq.mpr c36
        have c36b1 := bne_eq_false_iff_eq.mpr c36
        clear c36
        obtain ⟨t265, A37, H⟩ := bN H
        (try dsimp only at H)
        have c38b0 := eq_true (of_decide_eq_true aM : 0 ≤ a1)
        obtain ⟨c39, H⟩ := iN (c := a1 ≤ (wrap64 ((wrap64 (a1 + 1)) + t263))) H
        have c39b0 := eq_true c39
        have c39b1 := decide_eq_true c39
        obtain ⟨c40, H⟩ := iN (c := (wrap64 ((wrap64 (a1 + 1)) + t263)) ≤ (a0.size : Int)) H
        have c40b0 := eq_true c40
        have c40b1 := decide_eq_true c40
        obtain ⟨js41, hjs41⟩ : ∃ j_ : ByteArray, (a0.extract (a1 : Int).toNat ((wrap64 ((wrap64 (a1 + 1)) + t263)) : Int).toNat) = j_ := ⟨_, rfl⟩
        replace H : (if t265.toList = (js41).toList then (some (IntKind.u64.wrap (x8_3 + (240 + ((((bt a0 a1) - 241) % 256) * 256))), wrap64 ((wrap64 (a1 + 1)) + t263), 0)) else (some (0, 0, 3))) = some (r1, r2, r3) := by first | (rw [hjs41] at H; exact H) | (simp only [hjs41] at H ⊢; exact H)
        (try rw [hjs41] at A37)
        by_cases c42 : t265.toList = (js41).toList
        rotate_left
        ·rw [if_neg c42] at H
         have c42b0 := beq_eq_false_iff_ne.mpr c42
         have c42b1 := bne_iff_ne.mpr c42
         simp only [Option.some.injEq, Prod.mk.injEq] at H
         obtain ⟨rfl, rfl, rfl⟩ := H
         have p24 : 0 ≤ (a1 : Int) := of_decide_eq_true aM
         have q24 : a1 < (a0.size : Int) := of_decide_eq_true aM
         have hx24 := bt_at a0 a1
         replace p24 := eq_true p24
         replace q24 := eq_true q24
         try go_wp2
         replace HB := as_ (below_drew1 HB.out)
         refine start_ (n := 7) (S := fun w' => True) (ds := []) #[ff, ff, ff, ff, ff, ff, ff] (by kernel_rfl) rfl rfl trivial (fun hHeld => ?_)
         generalize wr.drew = w45 at HB hHeld ⊢
         refine pure_ (i := 0) (N := some 82) (v := ?_) (a' := ?_) (mr [1, 6]) rfl rfl (by kernel_rfl) (fun _ _ _ h => h) (Or.inl ⟨by rfl, ?_⟩) ?_ ?_
         rotate_left
         ·intro w'
          go_simp
          with_reducible rfl
         rotate_left
         ·exact aP
         refine pure_ (i := 2) (N := some 84) (v := ?_) (a' := ?_) (mr [1, 1, 1, 4]) rfl rfl (by kernel_rfl) (fun _ _ _ h => h) (Or.inl ⟨by rfl, ?_⟩) ?_ ?_
         rotate_left
         ·intro w'
          go_simp
          with_reducible rfl
         rotate_left
         ·exact aP
         refine pure_ (i := 3) (N := some 85) (v := ?_) (a' := ?_) (mr [1, 1, 2, 3]) rfl rfl (by kernel_rfl) (fun _ _ _ h => h) (Or.inl ⟨by rfl, ?_⟩) ?_ ?_
         rotate_left
         ·intro w'
          go_simp
          with_reducible rfl
         rotate_left
         ·exact aP
         refine pure_ (i := 4) (N := some 86) (v := ?_) (a' := ?_) (mr [1, 1, 3, 2]) rfl rfl (by kernel_rfl) (fun _ _ _ h => h) (Or.inl ⟨by rfl, ?_⟩) ?_ ?_
         rotate_left
         ·intro w'
          go_simp
          with_reducible rfl
         rotate_left
         ·exact aP
         refine pure_ (i := 5) (N := some 87) (v := ?_) (a' := ?_) (mr [1, 1, 4, 1]) rfl rfl (by kernel_rfl) (fun _ _ _ h => h) (Or.inl ⟨by rfl, ?_⟩) ?_ ?_
         rotate_left
         ·intro w'
          go_simp
          with_reducible rfl
         rotate_left
         ·exact aP
         refine one_ (i := 1) (N := some 83) (mr [6, 1]) rfl rfl (by kernel_rfl) (by decide) (fun K hK => ?_)
         refine goes_ Tryz.func63 (by kernel_rfl) rfl #[.int .u64 (IntKind.u64.wrap (x8_3 + (240 + ((((bt a0 a1) - 241) % 256) * 256))))] (by rfl) rfl rfl aO ?_
         with_reducible refine (word_Put.calls k3 (IntKind.u64.wrap (x8_3 + (240 + ((((bt a0 a1) - 241) % 256) * 256)))) t265 _ A37.out).mono ?_
         rintro e w46 ⟨rfl, hb⟩
         refine ⟨_, rfl, ?_⟩
         replace HB := as_ (below_step bA hb)
         (try clear hb)
         (try clear hb2)
         (try clear hk)
         (try clear hi)
         refine hK.out _ _ trivial (fun hHeld => ?_)
         clear hK K
         refine nm_ (some 83) (h := ?_)
         refine pure_ (i := 6) (N := some 88) (v := ?_) (a' := ?_) (mr [7]) rfl rfl (by kernel_rfl) (fun _ _ _ h => h) (Or.inl ⟨by rfl, ?_⟩) ?_ ?_
         rotate_left
         ·intro w'
          go_simp
          with_reducible rfl
         rotate_left
         ·exact aP
         refine done_ (by kernel_rfl) ?_
         try go_wp2
         go_ret3
         exact ⟨by first | rfl | (simp [errW_none, errW_some] <;> rfl) | (simp only [← hjs41]; first | rfl | (simp [errW_none, errW_some] <;> rfl)) | (simp [*, errW_none, errW_some] <;> rfl), bA⟩
        rw [if_pos c42] at H
        have c42b0 := beq_iff_eq.mpr c42
        have c42b1 := bne_eq_false_iff_eq.mpr c42
        clear c42
        simp only [Option.some.injEq, Prod.mk.injEq] at H
        obtain ⟨rfl, rfl, rfl⟩ := H
        have p24 : 0 ≤ (a1 : Int) := of_decide_eq_true aM
        have q24 : a1 < (a0.size : Int) := of_decide_eq_true aM
        have hx24 := bt_at a0 a1
        replace p24 := eq_true p24
        replace q24 := eq_true q24
        try go_wp2
        replace HB := as_ (below_drew1 HB.out)
        refine start_ (n := 7) (S := fun w' => True) (ds := []) #[ff, ff, ff, ff, ff, ff, ff] (by kernel_rfl) rfl rfl trivial (fun hHeld => ?_)
        generalize wr.drew = w43 at HB hHeld ⊢
        refine pure_ (i := 0) (N := some 82) (v := ?_) (a' := ?_) (mr [1, 6]) rfl rfl (by kernel_rfl) (fun _ _ _ h => h) (Or.inl ⟨by rfl, ?_⟩) ?_ ?_
        rotate_left
        ·intro w'
         go_simp
         with_reducible rfl
        rotate_left
        ·exact aP
        refine pure_ (i := 2) (N := some 84) (v := ?_) (a' := ?_) (mr [1, 1, 1, 4]) rfl rfl (by kernel_rfl) (fun _ _ _ h => h) (Or.inl ⟨by rfl, ?_⟩) ?_ ?_
        rotate_left
        ·intro w'
         go_simp
         with_reducible rfl
        rotate_left
        ·exact aP
        refine pure_ (i := 3) (N := some 85) (v := ?_) (a' := ?_) (mr [1, 1, 2, 3]) rfl rfl (by kernel_rfl) (fun _ _ _ h => h) (Or.inl ⟨by rfl, ?_⟩) ?_ ?_
        rotate_left
        ·intro w'
         go_simp
         with_reducible rfl
        rotate_left
        ·exact aP
        refine pure_ (i := 4) (N := some 86) (v := ?_) (a' := ?_) (mr [1, 1, 3, 2]) rfl rfl (by kernel_rfl) (fun _ _ _ h => h) (Or.inl ⟨by rfl, ?_⟩) ?_ ?_
        rotate_left
        ·intro w'
         go_simp
         with_reducible rfl
        rotate_left
        ·exact aP
        refine pure_ (i := 5) (N := some 87) (v := ?_) (a' := ?_) (mr [1, 1, 4, 1]) rfl rfl (by kernel_rfl) (fun _ _ _ h => h) (Or.inl ⟨by rfl, ?_⟩) ?_ ?_
        rotate_left
        ·intro w'
         go_simp
         with_reducible rfl
        rotate_left
        ·exact aP
        refine one_ (i := 1) (N := some 83) (mr [6, 1]) rfl rfl (by kernel_rfl) (by decide) (fun K hK => ?_)
        refine goes_ Tryz.func63 (by kernel_rfl) rfl #[.int .u64 (IntKind.u64.wrap (x8_3 + (240 + ((((bt a0 a1) - 241) % 256) * 256))))] (by rfl) rfl rfl aO ?_
        with_reducible refine (word_Put.calls k3 (IntKind.u64.wrap (x8_3 + (240 + ((((bt a0 a1) - 241) % 256) * 256)))) t265 _ A37.out).mono ?_
        rintro e w44 ⟨rfl, hb⟩
        refine ⟨_, rfl, ?_⟩
        replace HB := as_ (below_step bA hb)
        (try clear hb)
        (try clear hb2)
        (try clear hk)
        (try clear hi)
        refine hK.out _ _ trivial (fun hHeld => ?_)
        clear hK K
        refine nm_ (some 83) (h := ?_)
        refine pure_ (i := 6) (N := some 88) (v := ?_) (a' := ?_) (mr [7]) rfl rfl (by kernel_rfl) (fun _ _ _ h => h) (Or.inl ⟨by rfl, ?_⟩) ?_ ?_
        rotate_left
        ·intro w'
         go_simp
         with_reducible rfl
        rotate_left
        ·exact aP
        refine done_ (by kernel_rfl) ?_
        try go_wp2
        go_ret3
        exact ⟨by first | rfl | (simp [errW_none, errW_some] <;> rfl) | (simp only [← hjs41]; first | rfl | (simp [errW_none, errW_some] <;> rfl)) | (simp [*, errW_none, errW_some] <;> rfl), bA⟩
       rw [if_neg c36] at H
       have c36b0 := beq_eq_false_iff_ne.mpr c36
       have c36b1 := bne_iff_ne.mpr c36
       by_cases c47 : t263 = 2
       rotate_left
       ·rw [if_neg c47] at H
        have c47b0 := beq_eq_false_iff_ne.mpr c47
        have c47b1 := bne_iff_ne.mpr c47
        obtain ⟨t267, A58, H⟩ := bN H
        (try dsimp only at H)
        have c59b0 := eq_true (of_decide_eq_true aM : 0 ≤ a1)
        obtain ⟨c60, H⟩ := iN (c := a1 ≤ (wrap64 ((wrap64 (a1 + 1)) + t263))) H
        have c60b0 := eq_true c60
        have c60b1 := decide_eq_true c60
        obtain ⟨c61, H⟩ := iN (c := (wrap64 ((wrap64 (a1 + 1)) + t263)) ≤ (a0.size : Int)) H
        have c61b0 := eq_true c61
        have c61b1 := decide_eq_true c61
        obtain ⟨js62, hjs62⟩ : ∃ j_ : ByteArray, (a0.extract (a1 : Int).toNat ((wrap64 ((wrap64 (a1 + 1)) + t263)) : Int).toNat) = j_ := ⟨_, rfl⟩
        replace H : (if t267.toList = (js62).toList then (some (x8_3, wrap64 ((wrap64 (a1 + 1)) + t263), 0)) else (some (0, 0, 3))) = some (r1, r2, r3) := by first | (rw [hjs62] at H; exact H) | (simp only [hjs62] at H ⊢; exact H)
        (try rw [hjs62] at A58)
        by_cases c63 : t267.toList = (js62).toList
        rotate_left
        ·rw [if_neg c63] at H
         have c63b0 := beq_eq_false_iff_ne.mpr c63
         have c63b1 := bne_iff_ne.mpr c63
         simp only [Option.some.injEq, Prod.mk.injEq] at H
         obtain ⟨rfl, rfl, rfl⟩ := H
         have p24 : 0 ≤ (a1 : Int) := of_decide_eq_true aM
         have q24 : a1 < (a0.size : Int) := of_decide_eq_true aM
         have hx24 := bt_at a0 a1
         replace p24 := eq_true p24
         replace q24 := eq_true q24
         try go_wp2
         replace HB := as_ (below_drew1 HB.out)
         refine start_ (n := 7) (S := fun w' => True) (ds := []) #[ff, ff, ff, ff, ff, ff, ff] (by kernel_rfl) rfl rfl trivial (fun hHeld => ?_)
         generalize wr.drew = w66 at HB hHeld ⊢
         refine pure_ (i := 0) (N := some 82) (v := ?_) (a' := ?_) (mr [1, 6]) rfl rfl (by kernel_rfl) (fun _ _ _ h => h) (Or.inl ⟨by rfl, ?_⟩) ?_ ?_
         rotate_left
         ·intro w'
          go_simp
          with_reducible rfl
         rotate_left
         ·exact aP
         refine pure_ (i := 2) (N := some 84) (v := ?_) (a' := ?_) (mr [1, 1, 1, 4]) rfl rfl (by kernel_rfl) (fun _ _ _ h => h) (Or.inl ⟨by rfl, ?_⟩) ?_ ?_
         rotate_left
         ·intro w'
          go_simp
          with_reducible rfl
         rotate_left
         ·exact aP
         refine pure_ (i := 3) (N := some 85) (v := ?_) (a' := ?_) (mr [1, 1, 2, 3]) rfl rfl (by kernel_rfl) (fun _ _ _ h => h) (Or.inl ⟨by rfl, ?_⟩) ?_ ?_
         rotate_left
         ·intro w'
          go_simp
          with_reducible rfl
         rotate_left
         ·exact aP
         refine pure_ (i := 4) (N := some 86) (v := ?_) (a' := ?_) (mr [1, 1, 3, 2]) rfl rfl (by kernel_rfl) (fun _ _ _ h => h) (Or.inl ⟨by rfl, ?_⟩) ?_ ?_
         rotate_left
         ·intro w'
          go_simp
          with_reducible rfl
         rotate_left
         ·exact aP
         refine pure_ (i := 5) (N := some 87) (v := ?_) (a' := ?_) (mr [1, 1, 4, 1]) rfl rfl (by kernel_rfl) (fun _ _ _ h => h) (Or.inl ⟨by rfl, ?_⟩) ?_ ?_
         rotate_left
         ·intro w'
          go_simp
          with_reducible rfl
         rotate_left
         ·exact aP
         refine one_ (i := 1) (N := some 83) (mr [6, 1]) rfl rfl (by kernel_rfl) (by decide) (fun K hK => ?_)
         refine goes_ Tryz.func63 (by kernel_rfl) rfl #[.int .u64 x8_3] (by rfl) rfl rfl aO ?_
         with_reducible refine (word_Put.calls k3 x8_3 t267 _ A58.out).mono ?_
         rintro e w67 ⟨rfl, hb⟩
         refine ⟨_, rfl, ?_⟩
         replace HB := as_ (below_step bA hb)
         (try clear hb)
         (try clear hb2)
         (try clear hk)
         (try clear hi)
         refine hK.out _ _ trivial (fun hHeld => ?_)
         clear hK K
         refine nm_ (some 83) (h := ?_)
         refine pure_ (i := 6) (N := some 88) (v := ?_) (a' := ?_) (mr [7]) rfl rfl (by kernel_rfl) (fun _ _ _ h => h) (Or.inl ⟨by rfl, ?_⟩) ?_ ?_
         rotate_left
         ·intro w'
          go_simp
          with_reducible rfl
         rotate_left
         ·exact aP
         refine done_ (by kernel_rfl) ?_
         try go_wp2
         go_ret3
         exact ⟨by first | rfl | (simp [errW_none, errW_some] <;> rfl) | (simp only [← hjs62]; first | rfl | (simp [errW_none, errW_some] <;> rfl)) | (simp [*, errW_none, errW_some] <;> rfl), bA⟩
        rw [if_pos c63] at H
        have c63b0 := beq_iff_eq.mpr c63
        have c63b1 := bne_eq_false_iff_eq.mpr c63
        clear c63
        simp only [Option.some.injEq, Prod.mk.injEq] at H
        obtain ⟨rfl, rfl, rfl⟩ := H
        have p24 : 0 ≤ (a1 : Int) := of_decide_eq_true aM
        have q24 : a1 < (a0.size : Int) := of_decide_eq_true aM
        have hx24 := bt_at a0 a1
        replace p24 := eq_true p24
        replace q24 := eq_true q24
        try go_wp2
        replace HB := as_ (below_drew1 HB.out)
        refine start_ (n := 7) (S := fun w' => True) (ds := []) #[ff, ff, ff, ff, ff, ff, ff] (by kernel_rfl) rfl rfl trivial (fun hHeld => ?_)
        generalize wr.drew = w64 at HB hHeld ⊢
        refine pure_ (i := 0) (N := some 82) (v := ?_) (a' := ?_) (mr [1, 6]) rfl rfl (by kernel_rfl) (fun _ _ _ h => h) (Or.inl ⟨by rfl, ?_⟩) ?_ ?_
        rotate_left
        ·intro w'
         go_simp
         with_reducible rfl
        rotate_left
        ·exact aP
        refine pure_ (i := 2) (N := some 84) (v := ?_) (a' := ?_) (mr [1, 1, 1, 4]) rfl rfl (by kernel_rfl) (fun _ _ _ h => h) (Or.inl ⟨by rfl, ?_⟩) ?_ ?_
        rotate_left
        ·intro w'
         go_simp
         with_reducible rfl
        rotate_left
        ·exact aP
        refine pure_ (i := 3) (N := some 85) (v := ?_) (a' := ?_) (mr [1, 1, 2, 3]) rfl rfl (by kernel_rfl) (fun _ _ _ h => h) (Or.inl ⟨by rfl, ?_⟩) ?_ ?_
        rotate_left
        ·intro w'
         go_simp
         with_reducible rfl
        rotate_left
        ·exact aP
        refine pure_ (i := 4) (N := some 86) (v := ?_) (a' := ?_) (mr [1, 1, 3, 2]) rfl rfl (by kernel_rfl) (fun _ _ _ h => h) (Or.inl ⟨by rfl, ?_⟩) ?_ ?_
        rotate_left
        ·intro w'
         go_simp
         with_reducible rfl
        rotate_left
        ·exact aP
        refine pure_ (i := 5) (N := some 87) (v := ?_) (a' := ?_) (mr [1, 1, 4, 1]) rfl rfl (by kernel_rfl) (fun _ _ _ h => h) (Or.inl ⟨by rfl, ?_⟩) ?_ ?_
        rotate_left
        ·intro w'
         go_simp
         with_reducible rfl
        rotate_left
        ·exact aP
        refine one_ (i := 1) (N := some 83) (mr [6, 1]) rfl rfl (by kernel_rfl) (by decide) (fun K hK => ?_)
        refine goes_ Tryz.func63 (by kernel_rfl) rfl #[.int .u64 x8_3] (by rfl) rfl rfl aO ?_
        with_reducible refine (word_Put.calls k3 x8_3 t267 _ A58.out).mono ?_
        rintro e w65 ⟨rfl, hb⟩
        refine ⟨_, rfl, ?_⟩
        replace HB := as_ (below_step bA hb)
        (try clear hb)
        (try clear hb2)
        (try clear hk)
        (try clear hi)
        refine hK.out _ _ trivial (fun hHeld => ?_)
        clear hK K
        refine nm_ (some 83) (h := ?_)
        refine pure_ (i := 6) (N := some 88) (v := ?_) (a' := ?_) (mr [7]) rfl rfl (by kernel_rfl) (fun _ _ _ h => h) (Or.inl ⟨by rfl, ?_⟩) ?_ ?_
        rotate_left
        ·intro w'
         go_simp
         with_reducible rfl
        rotate_left
        ·exact aP
        refine done_ (by kernel_rfl) ?_
        try go_wp2
        go_ret3
        exact ⟨by first | rfl | (simp [errW_none, errW_some] <;> rfl) | (simp only [← hjs62]; first | rfl | (simp [errW_none, errW_some] <;> rfl)) | (simp [*, errW_none, errW_some] <;> rfl), bA⟩
       rw [if_pos c47] at H
       have c47b0 := beq_iff_eq.mpr c47
       have c47b1 := bne_eq_false_iff_eq.mpr c47
       clear c47
       obtain ⟨t266, A48, H⟩ := bN H
       (try dsimp only at H)
       have c49b0 := eq_true (of_decide_eq_true aM : 0 ≤ a1)
       obtain ⟨c50, H⟩ := iN (c := a1 ≤ (wrap64 ((wrap64 (a1 + 1)) + t263))) H
       have c50b0 := eq_true c50
       have c50b1 := decide_eq_true c50
       obtain ⟨c51, H⟩ := iN (c := (wrap64 ((wrap64 (a1 + 1)) + t263)) ≤ (a0.size : Int)) H
       have c51b0 := eq_true c51
       have c51b1 := decide_eq_true c51
       obtain ⟨js52, hjs52⟩ : ∃ j_ : ByteArray, (a0.extract (a1 : Int).toNat ((wrap64 ((wrap64 (a1 + 1)) + t263)) : Int).toNat) = j_ := ⟨_, rfl⟩
       replace H : (if t266.toList = (js52).toList then (some (IntKind.u64.wrap (x8_3 + 2288), wrap64 ((wrap64 (a1 + 1)) + t263), 0)) else (some (0, 0, 3))) = some (r1, r2, r3) := by first | (rw [hjs52] at H; exact H) | (simp only [hjs52] at H ⊢; exact H)
       (try rw [hjs52] at A48)
       by_cases c53 : t266.toList = (js52).toList
       rotate_left
       ·rw [if_neg c53] at H
        have c53b0 := beq_eq_false_iff_ne.mpr c53
        have c53b1 := bne_iff_ne.mpr c53
        simp only [Option.some.injEq, Prod.mk.injEq] at H
        obtain ⟨rfl, rfl, rfl⟩ := H
        have p24 : 0 ≤ (a1 : Int) := of_decide_eq_true aM
        have q24 : a1 < (a0.size : Int) := of_decide_eq_true aM
        have hx24 := bt_at a0 a1
        replace p24 := eq_true p24
        replace q24 := eq_true q24
        try go_wp2
        replace HB := as_ (below_drew1 HB.out)
        refine start_ (n := 7) (S := fun w' => True) (ds := []) #[ff, ff, ff, ff, ff, ff, ff] (by kernel_rfl) rfl rfl trivial (fun hHeld => ?_)
        generalize wr.drew = w56 at HB hHeld ⊢
        refine pure_ (i := 0) (N := some 82) (v := ?_) (a' := ?_) (mr [1, 6]) rfl rfl (by kernel_rfl) (fun _ _ _ h => h) (Or.inl ⟨by rfl, ?_⟩) ?_ ?_
        rotate_left
        ·intro w'
         go_simp
         with_reducible rfl
        rotate_left
        ·exact aP
        refine pure_ (i := 2) (N := some 84) (v := ?_) (a' := ?_) (mr [1, 1, 1, 4]) rfl rfl (by kernel_rfl) (fun _ _ _ h => h) (Or.inl ⟨by rfl, ?_⟩) ?_ ?_
        rotate_left
        ·intro w'
         go_simp
         with_reducible rfl
        rotate_left
        ·exact aP
        refine pure_ (i := 3) (N := some 85) (v := ?_) (a' := ?_) (mr [1, 1, 2, 3]) rfl rfl (by kernel_rfl) (fun _ _ _ h => h) (Or.inl ⟨by rfl, ?_⟩) ?_ ?_
        rotate_left
        ·intro w'
         go_simp
         with_reducible rfl
        rotate_left
        ·exact aP
        refine pure_ (i := 4) (N := some 86) (v := ?_) (a' := ?_) (mr [1, 1, 3, 2]) rfl rfl (by kernel_rfl) (fun _ _ _ h => h) (Or.inl ⟨by rfl, ?_⟩) ?_ ?_
        rotate_left
        ·intro w'
         go_simp
         with_reducible rfl
        rotate_left
        ·exact aP
        refine pure_ (i := 5) (N := some 87) (v := ?_) (a' := ?_) (mr [1, 1, 4, 1]) rfl rfl (by kernel_rfl) (fun _ _ _ h => h) (Or.inl ⟨by rfl, ?_⟩) ?_ ?_
        rotate_left
        ·intro w'
         go_simp
         with_reducible rfl
        rotate_left
        ·exact aP
        refine one_ (i := 1) (N := some 83) (mr [6, 1]) rfl rfl (by kernel_rfl) (by decide) (fun K hK => ?_)
        refine goes_ Tryz.func63 (by kernel_rfl) rfl #[.int .u64 (IntKind.u64.wrap (x8_3 + 2288))] (by rfl) rfl rfl aO ?_
        with_reducible refine (word_Put.calls k3 (IntKind.u64.wrap (x8_3 + 2288)) t266 _ A48.out).mono ?_
        rintro e w57 ⟨rfl, hb⟩
        refine ⟨_, rfl, ?_⟩
        replace HB := as_ (below_step bA hb)
        (try clear hb)
        (try clear hb2)
        (try clear hk)
        (try clear hi)
        refine hK.out _ _ trivial (fun hHeld => ?_)
        clear hK K
        refine nm_ (some 83) (h := ?_)
        refine pure_ (i := 6) (N := some 88) (v := ?_) (a' := ?_) (mr [7]) rfl rfl (by kernel_rfl) (fun _ _ _ h => h) (Or.inl ⟨by rfl, ?_⟩) ?_ ?_
        rotate_left
        ·intro w'
         go_simp
         with_reducible rfl
        rotate_left
        ·exact aP
        refine done_ (by kernel_rfl) ?_
        try go_wp2
        go_ret3
        exact ⟨by first | rfl | (simp [errW_none, errW_some] <;> rfl) | (simp only [← hjs52]; first | rfl | (simp [errW_none, errW_some] <;> rfl)) | (simp [*, errW_none, errW_some] <;> rfl), bA⟩
       rw [if_pos c53] at H
       have c53b0 := beq_iff_eq.mpr c53
       have c53b1 := bne_eq_false_iff_eq.mpr c53
       clear c53
       simp only [Option.some.injEq, Prod.mk.injEq] at H
       obtain ⟨rfl, rfl, rfl⟩ := H
       have p24 : 0 ≤ (a1 : Int) := of_decide_eq_true aM
       have q24 : a1 < (a0.size : Int) := of_decide_eq_true aM
       have hx24 := bt_at a0 a1
       replace p24 := eq_true p24
       replace q24 := eq_true q24
       try go_wp2
       replace HB := as_ (below_drew1 HB.out)
       refine start_ (n := 7) (S := fun w' => True) (ds := []) #[ff, ff, ff, ff, ff, ff, ff] (by kernel_rfl) rfl rfl trivial (fun hHeld => ?_)
       generalize wr.drew = w54 at HB hHeld ⊢
       refine pure_ (i := 0) (N := some 82) (v := ?_) (a' := ?_) (mr [1, 6]) rfl rfl (by kernel_rfl) (fun _ _ _ h => h) (Or.inl ⟨by rfl, ?_⟩) ?_ ?_
       rotate_left
       ·intro w'
        go_simp
        with_reducible rfl
       rotate_left
       ·exact aP
       refine pure_ (i := 2) (N := some 84) (v := ?_) (a' := ?_) (mr [1, 1, 1, 4]) rfl rfl (by kernel_rfl) (fun _ _ _ h => h) (Or.inl ⟨by rfl, ?_⟩) ?_ ?_
       rotate_left
       ·intro w'
        go_simp
        with_reducible rfl
       rotate_left
       ·exact aP
       refine pure_ (i := 3) (N := some 85) (v := ?_) (a' := ?_) (mr [1, 1, 2, 3]) rfl rfl (by kernel_rfl) (fun _ _ _ h => h) (Or.inl ⟨by rfl, ?_⟩) ?_ ?_
       rotate_left
       ·intro w'
        go_simp
        with_reducible rfl
       rotate_left
       ·exact aP
       refine pure_ (i := 4) (N := some 86) (v := ?_) (a' := ?_) (mr [1, 1, 3, 2]) rfl rfl (by kernel_rfl) (fun _ _ _ h => h) (Or.inl ⟨by rfl, ?_⟩) ?_ ?_
       rotate_left
       ·intro w'
        go_simp
        with_reducible rfl
       rotate_left
       ·exact aP
       refine pure_ (i := 5) (N := some 87) (v := ?_) (a' := ?_) (mr [1, 1, 4, 1]) rfl rfl (by kernel_rfl) (fun _ _ _ h => h) (Or.inl ⟨by rfl, ?_⟩) ?_ ?_
       rotate_left
       ·intro w'
        go_simp
        with_reducible rfl
       rotate_left
       ·exact aP
       refine one_ (i := 1) (N := some 83) (mr [6, 1]) rfl rfl (by kernel_rfl) (by decide) (fun K hK => ?_)
       refine goes_ Tryz.func63 (by kernel_rfl) rfl #[.int .u64 (IntKind.u64.wrap (x8_3 + 2288))] (by rfl) rfl rfl aO ?_
       with_reducible refine (word_Put.calls k3 (IntKind.u64.wrap (x8_3 + 2288)) t266 _ A48.out).mono ?_
       rintro e w55 ⟨rfl, hb⟩
       refine ⟨_, rfl, ?_⟩
       replace HB := as_ (below_step bA hb)
       (try clear hb)
       (try clear hb2)
       (try clear hk)
       (try clear hi)
       refine hK.out _ _ trivial (fun hHeld => ?_)
       clear hK K
       refine nm_ (some 83) (h := ?_)
       refine pure_ (i := 6) (N := some 88) (v := ?_) (a' := ?_) (mr [7]) rfl rfl (by kernel_rfl) (fun _ _ _ h => h) (Or.inl ⟨by rfl, ?_⟩) ?_ ?_
       rotate_left
       ·intro w'
        go_simp
        with_reducible rfl
       rotate_left
       ·exact aP
       refine done_ (by kernel_rfl) ?_
       try go_wp2
       go_ret3
       exact ⟨by first | rfl | (simp [errW_none, errW_some] <;> rfl) | (simp only [← hjs52]; first | rfl | (simp [errW_none, errW_some] <;> rfl)) | (simp [*, errW_none, errW_some] <;> rfl), bA⟩
/-! ### inner_text: function 41 -/
def inner_text.f (k : Nat) (a0 : ByteArray) (a1 : Int) : Option (ByteArray × Int) := (word_Get.f k a0 a1).bind fun bt268 => (if bt268.2.2 = 0 then (if bt268.1 > (IntKind.u64.wrap (wrap64 ((a0.size : Int) - bt268.2.1))) then (some ((⟨#[]⟩ : ByteArray), (-1))) else (if 0 ≤ bt268.2.1 then (if bt268.2.1 ≤ (wrap64 (bt268.2.1 + (wrap64 (bt268.1)))) then (if (wrap64 (bt268.2.1 + (wrap64 (bt268.1)))) ≤ (a0.size : Int) then (some (a0.extract (bt268.2.1 : Int).toNat ((wrap64 (bt268.2.1 + (wrap64 (bt268.1)))) : Int).toNat, wrap64 (bt268.2.1 + (wrap64 (bt268.1))))) else (none)) else (none)) else (none))) else (some ((⟨#[]⟩ : ByteArray), (-1))))
theorem inner_text.mono : ∀ a0 a1 k, LeO (inner_text.f k a0 a1) (inner_text.f (k + 1) a0 a1) := by
 intro a0 a1 k
 unfold inner_text.f
 repeat' first
   | (with_reducible exact word_Get.mono _ _ _)
   | (with_reducible exact LeO.refl _)
   | (with_reducible exact LeO.none _)
   | (with_reducible refine LeO.ite ?_ ?_)
   | (with_reducible refine LeO.bind ?_ (fun _ => ?_))
   | exact word_Get.mono _ _ _
   | exact LeO.none _
   | refine LeO.ite ?_ ?_
   | refine LeO.bind ?_ (fun _ => ?_)
set_option maxHeartbeats 8000000 in
set_option maxRecDepth 100000 in
theorem inner_text.calls (k : Nat) (a0 : ByteArray) (a1 : Int) (r1 : ByteArray) (r2 : Int) (w : World) (h : inner_text.f k a0 a1 = some (r1, r2)) :
  Calls Tryz.prog 41 #[.string a0, .int .i64 a1] w fun e w' => e = .returned (.tuple #[.string r1, .int .i64 r2]) ∧ Below w.heap.size w w' := by
 have HB := as_ (Below.refl w.heap.size w)
 have H : ((word_Get.f k a0 a1).bind fun bt268 => (if bt268.2.2 = 0 then (if bt268.1 > (IntKind.u64.wrap (wrap64 ((a0.size : Int) - bt268.2.1))) then (some ((⟨#[]⟩ : ByteArray), (-1))) else (if 0 ≤ bt268.2.1 then (if bt268.2.1 ≤ (wrap64 (bt268.2.1 + (wrap64 (bt268.1)))) then (if (wrap64 (bt268.2.1 + (wrap64 (bt268.1)))) ≤ (a0.size : Int) then (some (a0.extract (bt268.2.1 : Int).toNat ((wrap64 (bt268.2.1 + (wrap64 (bt268.1)))) : Int).toNat, wrap64 (bt268.2.1 + (wrap64 (bt268.1))))) else (none)) else (none)) else (none))) else (some ((⟨#[]⟩ : ByteArray), (-1))))) = some (r1, r2) := h
 clear h
 obtain ⟨⟨t268, t269, t270⟩, A3, H⟩ := bN H
 (try dsimp only at H)
 by_cases c4 : t270 = 0
 rotate_left
 ·rw [if_neg c4] at H
  have c4b0 := beq_eq_false_iff_ne.mpr c4
  have c4b1 := bne_iff_ne.mpr c4
  simp only [Option.some.injEq, Prod.mk.injEq] at H
  obtain ⟨rfl, rfl⟩ := H
  go_enter Tryz.func41, Tryz.ntmps41
  go_wp2_with (first | ((with_reducible refine gate_callee (f := 79) rfl ?_); refine goesL_ (some 12) rfl rfl Tryz.func79 (by kernel_rfl) rfl #[.string a0, .int .i64 a1] rfl aO ?_; (with_reducible refine (word_Get.calls k a0 a1 t268 t269 t270 _ A3.out).mono ?_); rintro e w12 ⟨rfl, hb⟩; refine ⟨_, rfl, ?_⟩; replace HB := as_ (below_step bA hb); (try clear hb); (try clear hi)))
  go_ret2
  exact ⟨eW, bA⟩
 
 rw [if_pos c4] at H
 have c4b0 := beq_iff_eq.mpr c4
 have c4b1 := bne_eq_false_iff_eq.mpr c4
 clear c4
 by_cases c5 : t268 > (IntKind.u64.wrap (wrap64 ((a0.size : Int) - t269)))
 ·rw [if_pos c5] at H
  have c5b0 : decide ((IntKind.u64.wrap (wrap64 ((a0.size : Int) - t269))) < t268) = true := decide_eq_true c5
  clear c5
  simp only [Option.some.injEq, Prod.mk.injEq] at H
  obtain ⟨rfl, rfl⟩ := H
  go_enter Tryz.func41, Tryz.ntmps41
  go_wp2_with (first | ((with_reducible refine gate_callee (f := 79) rfl ?_); refine goesL_ (some 12) rfl rfl Tryz.func79 (by kernel_rfl) rfl #[.string a0, .int .i64 a1] rfl aO ?_; (with_reducible refine (word_Get.calls k a0 a1 t268 t269 t270 _ A3.out).mono ?_); rintro e w6 ⟨rfl, hb⟩; refine ⟨_, rfl, ?_⟩; replace HB := as_ (below_step bA hb); (try clear hb); (try clear hi)))
  go_ret2
  exact ⟨eW, bA⟩
 rw [if_neg c5] at H
 have c5b0 : decide ((IntKind.u64.wrap (wrap64 ((a0.size : Int) - t269))) < t268) = false := decide_eq_false c5
 clear c5
 obtain ⟨c7, H⟩ := iN (c := 0 ≤ t269) H
 have c7b0 := eq_true c7
 have c7b1 := decide_eq_true c7
 clear c7
 obtain ⟨c8, H⟩ := iN (c := t269 ≤ (wrap64 (t269 + (wrap64 (t268))))) H
 have c8b0 := eq_true c8
 have c8b1 := decide_eq_true c8
 obtain ⟨c9, H⟩ := iN (c := (wrap64 (t269 + (wrap64 (t268)))) ≤ (a0.size : Int)) H
 have c9b0 := eq_true c9
 have c9b1 := decide_eq_true c9
 obtain ⟨js10, hjs10⟩ : ∃ j_ : ByteArray, (a0.extract (t269 : Int).toNat ((wrap64 (t269 + (wrap64 (t268)))) : Int).toNat) = j_ := ⟨_, rfl⟩
 replace H : (some (js10, wrap64 (t269 + (wrap64 (t268))))) = some (r1, r2) := by first | (rw [hjs10] at H; exact H) | (simp only [hjs10] at H ⊢; exact H)
 (try rw [hjs10] at A3)
 simp only [Option.some.injEq, Prod.mk.injEq] at H
 obtain ⟨rfl, rfl⟩ := H
 go_enter Tryz.func41, Tryz.ntmps41
 go_wp2_with (first | ((with_reducible refine gate_callee (f := 79) rfl ?_); refine goesL_ (some 12) rfl rfl Tryz.func79 (by kernel_rfl) rfl #[.string a0, .int .i64 a1] rfl aO ?_; (with_reducible refine (word_Get.calls k a0 a1 t268 t269 t270 _ A3.out).mono ?_); rintro e w11 ⟨rfl, hb⟩; refine ⟨_, rfl, ?_⟩; replace HB := as_ (below_step bA hb); (try clear hb); (try clear hi)))
 go_ret2
 exact ⟨by first | rfl | (simp [errW_none, errW_some] <;> rfl) | (simp only [← hjs10]; first | rfl | (simp [errW_none, errW_some] <;> rfl)) | (simp [*, errW_none, errW_some] <;> rfl), bA⟩
end Go.Proofs.YtafebmhmcdnhkaaGreat.P
