/- What is proved here: for functions of the Go text, a Lean function each, and that the call comes to just what it answers. Conditions: as each contract names them. Written by wip/tools/myprint.py, a driver of the print of the kit. -/
import Derived.Test.YtjfgeppfkhaliaaDoorP0
import Derived.Test.YtjfgeppfkhaliaaDoorP3
import Derived.Test.YtjfgeppfkhaliaaDoorP4
import Derived.Test.YtjfgeppfkhaliaaDoorP5
import Derived.Test.YtjfgeppfkhaliaaDoorP12
import Derived.Test.YtjfgeppfkhaliaaDoorWAbbr
namespace Go.Proofs.YtjfgeppfkhaliaaDoor.P
open Go.RowKit Go.Proofs.YtjfgeppfkhaliaaDoorW.PrintWords Go.Proofs.YtjfgeppfkhaliaaDoorW.PrintLast Go.Proofs.YtjfgeppfkhaliaaDoorW.PrintMore Go.Proofs.YtjfgeppfkhaliaaDoorW.Abbr
-- PACKED
attribute [local go_sem] max2_int min2_int max_two min_two max_three min_three max_four min_four Go.Proofs.YtjfgeppfkhaliaaDoorLaws.str_leq Go.Proofs.YtjfgeppfkhaliaaDoorLaws.str_gtr Go.Proofs.YtjfgeppfkhaliaaDoorLaws.str_geq Go.Proofs.YtjfgeppfkhaliaaDoorLaws.max2_str Go.Proofs.YtjfgeppfkhaliaaDoorLaws.min2_str   -- for this text's walks alone
set_option linter.unusedVariables false
set_option linter.unusedSimpArgs false

/-! ### withylaw03_ColSizes: function 8 -/
mutual
def withylaw03_ColSizes.j0 : Nat → ByteArray → Int → Bool → Int → Int → Int → ByteArray → Option (Bool)
 | 0, _, _, _, _, _, _, _ => none
 | k + 1, x3, x4, x19, x482000, x482001, x482002, x482003 => if x19 = true then (if x4 = 0 then (none) else (if x3.toList = ([] : List UInt8) then ((col_Right.f k x482000 x482001 x482002 x482003).bind fun t488 => (if t488 = true then (none) else ((withylaw03_fixed.f k).bind fun t489 => (some t489)))) else (none))) else (if x482000 = 2 then (withylaw03_ColSizes.j1 k x3 9 x482000 x482001 x482002 x482003) else (withylaw03_ColSizes.j1 k x3 1 x482000 x482001 x482002 x482003))
def withylaw03_ColSizes.j1 : Nat → ByteArray → Int → Int → Int → Int → ByteArray → Option (Bool)
 | 0, _, _, _, _, _, _ => none
 | k + 1, x3, x5, x482000, x482001, x482002, x482003 => if x482000 = 4 then (withylaw03_ColSizes.l0 k x3 (wrap64 (3 + (x482003.size : Int))) 0 x482000 x482001 x482002 x482003) else (if x482000 = 3 then (if 0 < (x3.size : Int) then (if (wrap64 (Int.tdiv (wrap64 (bt x3 0)) 16)) = (wrap64 (x482000 + 1)) then ((withylaw03_fixed.f k).bind fun t492 => (some t492)) else (none)) else (none)) else (if (x3.size : Int) = x5 then (if 0 < (x3.size : Int) then (if (wrap64 (Int.tdiv (wrap64 (bt x3 0)) 16)) = (wrap64 (x482000 + 1)) then ((withylaw03_fixed.f k).bind fun t493 => (some t493)) else (none)) else (none)) else (none)))
def withylaw03_ColSizes.l0 : Nat → ByteArray → Int → Int → Int → Int → Int → ByteArray → Option (Bool)
 | 0, _, _, _, _, _, _, _ => none
 | k + 1, x3, x5, x6, x482000, x482001, x482002, x482003 => if x6 < (x482003.size : Int) then (if 0 ≤ x6 then (if (bt x482003 x6) = 0 then (withylaw03_ColSizes.l0 k x3 (wrap64 (x5 + 1)) (wrap64 (x6 + 1)) x482000 x482001 x482002 x482003) else (withylaw03_ColSizes.l0 k x3 x5 (wrap64 (x6 + 1)) x482000 x482001 x482002 x482003)) else (none)) else (if x482000 = 3 then (if 0 < (x3.size : Int) then (if (wrap64 (Int.tdiv (wrap64 (bt x3 0)) 16)) = (wrap64 (x482000 + 1)) then ((withylaw03_fixed.f k).bind fun t490 => (some t490)) else (none)) else (none)) else (if (x3.size : Int) = x5 then (if 0 < (x3.size : Int) then (if (wrap64 (Int.tdiv (wrap64 (bt x3 0)) 16)) = (wrap64 (x482000 + 1)) then ((withylaw03_fixed.f k).bind fun t491 => (some t491)) else (none)) else (none)) else (none)))
end
def withylaw03_ColSizes.f (k : Nat) (a0_0 : Int) (a0_1 : Int) (a0_2 : Int) (a0_3 : ByteArray) : Option (Bool) := (withylaw03_Cut.f a0_0 a0_1 a0_2 a0_3).bind fun bt482 => ((col_Put.f k bt482.1 bt482.2.1 bt482.2.2.1 bt482.2.2.2).bind fun bt486 => (if bt486.2 = 0 then (withylaw03_ColSizes.j0 k bt486.1 bt486.2 (bt486.1.toList == ([] : List UInt8)) bt482.1 bt482.2.1 bt482.2.2.1 bt482.2.2.2) else (withylaw03_ColSizes.j0 k bt486.1 bt486.2 true bt482.1 bt482.2.1 bt482.2.2.1 bt482.2.2.2)))
theorem withylaw03_ColSizes.mono_l : ∀ k, (∀ y0 y1 y2 y3 y4 y5 y6, LeO (withylaw03_ColSizes.j0 k y0 y1 y2 y3 y4 y5 y6) (withylaw03_ColSizes.j0 (k + 1) y0 y1 y2 y3 y4 y5 y6)) ∧ (∀ y0 y1 y2 y3 y4 y5, LeO (withylaw03_ColSizes.j1 k y0 y1 y2 y3 y4 y5) (withylaw03_ColSizes.j1 (k + 1) y0 y1 y2 y3 y4 y5)) ∧ (∀ y0 y1 y2 y3 y4 y5 y6, LeO (withylaw03_ColSizes.l0 k y0 y1 y2 y3 y4 y5 y6) (withylaw03_ColSizes.l0 (k + 1) y0 y1 y2 y3 y4 y5 y6))
 | 0 => ⟨fun _ _ _ _ _ _ _ r h => by simp [withylaw03_ColSizes.j0] at h, fun _ _ _ _ _ _ r h => by simp [withylaw03_ColSizes.j1] at h, fun _ _ _ _ _ _ _ r h => by simp [withylaw03_ColSizes.l0] at h⟩
 | k + 1 => by
  obtain ⟨ih0, ih1, ih2⟩ := withylaw03_ColSizes.mono_l k
  refine ⟨?_, ?_, ?_⟩
  ·intro y0 y1 y2 y3 y4 y5 y6
   unfold withylaw03_ColSizes.j0
   repeat' first
   | (with_reducible exact ih0 _ _ _ _ _ _ _)
   | (with_reducible exact ih1 _ _ _ _ _ _)
   | (with_reducible exact ih2 _ _ _ _ _ _ _)
   | (with_reducible exact col_Put.mono _ _ _ _ _)
   | (with_reducible exact col_Right.mono _ _ _ _ _)
   | (with_reducible exact withylaw03_fixed.mono _)
   | (with_reducible exact LeO.refl _)
   | (with_reducible exact LeO.none _)
   | (with_reducible refine LeO.ite ?_ ?_)
   | (with_reducible refine LeO.bind ?_ (fun _ => ?_))
   | exact ih0 _ _ _ _ _ _ _
   | exact ih1 _ _ _ _ _ _
   | exact ih2 _ _ _ _ _ _ _
   | exact col_Put.mono _ _ _ _ _
   | exact col_Right.mono _ _ _ _ _
   | exact withylaw03_fixed.mono _
   | exact LeO.none _
   | refine LeO.ite ?_ ?_
   | refine LeO.bind ?_ (fun _ => ?_)
  ·intro y0 y1 y2 y3 y4 y5
   unfold withylaw03_ColSizes.j1
   repeat' first
   | (with_reducible exact ih0 _ _ _ _ _ _ _)
   | (with_reducible exact ih1 _ _ _ _ _ _)
   | (with_reducible exact ih2 _ _ _ _ _ _ _)
   | (with_reducible exact col_Put.mono _ _ _ _ _)
   | (with_reducible exact col_Right.mono _ _ _ _ _)
   | (with_reducible exact withylaw03_fixed.mono _)
   | (with_reducible exact LeO.refl _)
   | (with_reducible exact LeO.none _)
   | (with_reducible refine LeO.ite ?_ ?_)
   | (with_reducible refine LeO.bind ?_ (fun _ => ?_))
   | exact ih0 _ _ _ _ _ _ _
   | exact ih1 _ _ _ _ _ _
   | exact ih2 _ _ _ _ _ _ _
   | exact col_Put.mono _ _ _ _ _
   | exact col_Right.mono _ _ _ _ _
   | exact withylaw03_fixed.mono _
   | exact LeO.none _
   | refine LeO.ite ?_ ?_
   | refine LeO.bind ?_ (fun _ => ?_)
  ·intro y0 y1 y2 y3 y4 y5 y6
   unfold withylaw03_ColSizes.l0
   repeat' first
   | (with_reducible exact ih0 _ _ _ _ _ _ _)
   | (with_reducible exact ih1 _ _ _ _ _ _)
   | (with_reducible exact ih2 _ _ _ _ _ _ _)
   | (with_reducible exact col_Put.mono _ _ _ _ _)
   | (with_reducible exact col_Right.mono _ _ _ _ _)
   | (with_reducible exact withylaw03_fixed.mono _)
   | (with_reducible exact LeO.refl _)
   | (with_reducible exact LeO.none _)
   | (with_reducible refine LeO.ite ?_ ?_)
   | (with_reducible refine LeO.bind ?_ (fun _ => ?_))
   | exact ih0 _ _ _ _ _ _ _
   | exact ih1 _ _ _ _ _ _
   | exact ih2 _ _ _ _ _ _ _
   | exact col_Put.mono _ _ _ _ _
   | exact col_Right.mono _ _ _ _ _
   | exact withylaw03_fixed.mono _
   | exact LeO.none _
   | refine LeO.ite ?_ ?_
   | refine LeO.bind ?_ (fun _ => ?_)
theorem withylaw03_ColSizes.mono : ∀ a0 a1 a2 a3 k, LeO (withylaw03_ColSizes.f k a0 a1 a2 a3) (withylaw03_ColSizes.f (k + 1) a0 a1 a2 a3) := by
 intro a0 a1 a2 a3 k
 obtain ⟨ih0, ih1, ih2⟩ := withylaw03_ColSizes.mono_l k
 unfold withylaw03_ColSizes.f
 repeat' first
   | (with_reducible exact ih0 _ _ _ _ _ _ _)
   | (with_reducible exact ih1 _ _ _ _ _ _)
   | (with_reducible exact ih2 _ _ _ _ _ _ _)
   | (with_reducible exact col_Put.mono _ _ _ _ _)
   | (with_reducible exact col_Right.mono _ _ _ _ _)
   | (with_reducible exact withylaw03_fixed.mono _)
   | (with_reducible exact LeO.refl _)
   | (with_reducible exact LeO.none _)
   | (with_reducible refine LeO.ite ?_ ?_)
   | (with_reducible refine LeO.bind ?_ (fun _ => ?_))
   | exact ih0 _ _ _ _ _ _ _
   | exact ih1 _ _ _ _ _ _
   | exact ih2 _ _ _ _ _ _ _
   | exact col_Put.mono _ _ _ _ _
   | exact col_Right.mono _ _ _ _ _
   | exact withylaw03_fixed.mono _
   | exact LeO.none _
   | refine LeO.ite ?_ ?_
   | refine LeO.bind ?_ (fun _ => ?_)
def withylaw03_ColSizes.T15 : Bool × List (List Nat × List Nat) := (true, [([], []), ([0], [0]), ([1], [1]), ([2], [2]), ([3], [3]), ([4, 3], [3, 4]), ([3], [3]), ([5, 6, 3], [3, 5, 6]), ([3, 7], [3, 7]), ([8, 3], [8]), ([9], [9]), ([10, 9], [9, 10]), ([11, 9], [9, 11]), ([12, 9], [9, 12]), ([9], [9]), ([14, 9], [9, 14]), ([15, 9], [9, 15]), ([13, 16, 9], [9, 13, 16]), ([9, 17], [9, 17]), ([18, 9], [18]), ([19, 19], [19]), ([19, 20], [19, 20]), ([21, 20, 0, 1, 2, 3, 4, 5, 6, 7, 8, 9, 10, 11, 12, 13, 14, 15, 16, 17, 18, 19, 20, 21], [21])])
def withylaw03_ColSizes.B15 : List Nat := [0, 1, 3, 7, 15, 31, 15, 127, 255, 511, 1023, 2047, 4095, 8191, 1023, 17407, 50175, 131071, 262143, 524287, 1048575, 2097151, 4194303]
theorem withylaw03_ColSizes.tab15 : rtab .any (opsOf Tryd.f8 15) = withylaw03_ColSizes.T15 := by kernel_rfl
theorem withylaw03_ColSizes.bits15 : waitsOk withylaw03_ColSizes.T15.2 withylaw03_ColSizes.B15 = true := by kernel_rfl
set_option maxHeartbeats 8000000 in
set_option maxRecDepth 100000 in
theorem withylaw03_ColSizes.calls (k : Nat) (a0_0 : Int) (a0_1 : Int) (a0_2 : Int) (a0_3 : ByteArray) (r : Bool) (w : World) (h : withylaw03_ColSizes.f k a0_0 a0_1 a0_2 a0_3 = some r) :
  Calls Tryd.prog 8 #[.agg #[.int .i64 a0_0, .int .i64 a0_1, .int .u64 a0_2, .string a0_3]] w fun e w' => e = .returned (.bool r) ∧ Below w.heap.size w w' := by
 have hu24 := Tryd.underlying24
 have HB := as_ (Below.refl w.heap.size w)
 have H : ((withylaw03_Cut.f a0_0 a0_1 a0_2 a0_3).bind fun bt482 => ((col_Put.f k bt482.1 bt482.2.1 bt482.2.2.1 bt482.2.2.2).bind fun bt486 => (if bt486.2 = 0 then (withylaw03_ColSizes.j0 k bt486.1 bt486.2 (bt486.1.toList == ([] : List UInt8)) bt482.1 bt482.2.1 bt482.2.2.1 bt482.2.2.2) else (withylaw03_ColSizes.j0 k bt486.1 bt486.2 true bt482.1 bt482.2.1 bt482.2.2.1 bt482.2.2.2)))) = some r := h
 clear h
 replace H := bM H
 obtain ⟨⟨t482, t483, t484, t485⟩, A20, H⟩ := H
 replace H : ((col_Put.f k t482 t483 t484 t485).bind fun bt486 => (if bt486.2 = 0 then (withylaw03_ColSizes.j0 k bt486.1 bt486.2 (bt486.1.toList == ([] : List UInt8)) t482 t483 t484 t485) else (withylaw03_ColSizes.j0 k bt486.1 bt486.2 true t482 t483 t484 t485))) = some r := H
 have A2 := Aside0.mk A20
 clear A20
 replace H := bM H
 obtain ⟨⟨t486, t487⟩, A30, H⟩ := H
 replace H : (if t487 = 0 then (withylaw03_ColSizes.j0 k t486 t487 (t486.toList == ([] : List UInt8)) t482 t483 t484 t485) else (withylaw03_ColSizes.j0 k t486 t487 true t482 t483 t484 t485)) = some r := H
 have A3 := Aside0.mk A30
 clear A30
 have HC4 := Aside0.mk H
 clear H
 go_enter Tryd.func8, Tryd.ntmps8
 go_upto_region 3 with (first | ((with_reducible refine gate_dst (N := 1) rfl ?_); (try (refine gate_guard (by rfl) ?_; dsimp only)); refine box_event (by rfl) (N := 1) (by rfl) (cs := #[.int .i64 a0_0, .int .i64 a0_1, .int .u64 a0_2, .string a0_3]) (t := 24) gS ?_; intro gb481 hg w5 hbox hb; have BK481 := as_ (hbox); have GW481 := gw hg bA; have GE481 := gw hg bA; replace HB := as_ (below_step bA hb); clear hb hbox hg; obtain ⟨hcz6_0, hcz6_1, hcz6_2, hcz6_3⟩ := zc4 BK481; obtain ⟨hfz6_0, hfz6_1, hfz6_2, hfz6_3⟩ := zf4 BK481) | ((with_reducible refine gate_callee (f := 9) rfl ?_); refine goesL_ (some 8) rfl rfl Tryd.func9 (by kernel_rfl) rfl #[.agg #[.int .i64 a0_0, .int .i64 a0_1, .int .u64 a0_2, .string a0_3]] rfl aO ?_; (with_reducible refine (withylaw03_Cut.calls a0_0 a0_1 a0_2 a0_3 t482 t483 t484 t485 _ A2.out).mono ?_); rintro e w7 ⟨rfl, hb⟩; refine ⟨_, rfl, ?_⟩; replace BK481 := bb BK481 hb; replace HB := as_ (below_step bA hb); (try clear hb); (try clear hb2); (try clear hk); (try clear hi); obtain ⟨hcz8_0, hcz8_1, hcz8_2, hcz8_3⟩ := zc4 BK481; obtain ⟨hfz8_0, hfz8_1, hfz8_2, hfz8_3⟩ := zf4 BK481) | ((with_reducible refine gate_callee (f := 10) rfl ?_); refine goesL_ (some 11) rfl rfl Tryd.func10 (by kernel_rfl) rfl #[.agg #[.int .i64 t482, .int .i64 t483, .int .u64 t484, .string t485]] rfl aO ?_; (with_reducible refine (col_Put.calls k t482 t483 t484 t485 t486 t487 _ A3.out).mono ?_); rintro e w9 ⟨rfl, hb⟩; refine ⟨_, rfl, ?_⟩; replace BK481 := as_ (blk_below (g := gb481) (o := .cells #[.int .i64 t482, .int .i64 t483, .int .u64 t484, .string t485] 24 (0, 0)) (by refine bx ?_; refine blk_put (cs := #[.int .i64 t482, .int .i64 t483, .int .u64 t484, .string a0_3]) ?_ 3 _ rfl; refine bx ?_; refine blk_put (cs := #[.int .i64 t482, .int .i64 t483, .int .u64 a0_2, .string a0_3]) ?_ 2 _ rfl; refine bx ?_; refine blk_put (cs := #[.int .i64 t482, .int .i64 a0_1, .int .u64 a0_2, .string a0_3]) ?_ 1 _ rfl; refine bx ?_; refine blk_put (cs := #[.int .i64 a0_0, .int .i64 a0_1, .int .u64 a0_2, .string a0_3]) ?_ 0 _ rfl; refine bx ?_; exact BK481.out) hb); replace HB := as_ (below_step bA hb); (try clear hb); (try clear hb2); (try clear hk); (try clear hi)))
 (try simp only [Act.put, List.setIfInBounds_toArray, List.set_cons_zero, List.set_cons_succ])
 go_cut [19] (fun v19 wc => ∃ (kq : Nat) (x19_3 : Bool), v19 = .bool x19_3 ∧ Aside0 (withylaw03_ColSizes.j0 kq t486 t487 x19_3 t482 t483 t484 t485 = some r) ∧ Aside0 (kq ≤ k) ∧ Aside0 (wc.heap[gb481]? = some (.cells #[.int .i64 t482, .int .i64 t483, .int .u64 t484, .string t485] 24 (0, 0))) ∧ Aside0 (Below w.heap.size w wc))
 case first =>
  have H := HC4.out
  clear HC4
  by_cases c10 : t487 = 0
  rotate_left
  ·rw [if_neg c10] at H
   have c10b0 : (t487 == 0) = false := beq_eq_false_iff_ne.mpr c10
   have c10b1 : (t487 != 0) = true := bne_iff_ne.mpr c10
   (first | rw [c10b0] | (simp only [i64_w, i32_w]; rw [c10b0]) | rw [c10b1] | skip)
   have H' := Aside0.mk H
   clear H
   go_wp2
   go_meet
   case rel => exact ⟨_, (true), (by first | rfl | (simp; done) | (simp [*]; done)), H', ⟨by first | omega | exact Nat.le_refl _⟩, ⟨by refine bx ?_; exact BK481.out⟩, ⟨by repeat (first | (with_reducible first | exact HB.out | apply below_alloc | apply pw_below_drewN | apply below_drew1 | refine below_set ?_ GE481.out) | exact HB.out)⟩⟩
  rw [if_pos c10] at H
  have c10b0 : (t487 == 0) = true := beq_iff_eq.mpr c10
  have c10b1 : (t487 != 0) = false := bne_eq_false_iff_eq.mpr c10
  clear c10
  (first | rw [c10b0] | (simp only [i64_w, i32_w]; rw [c10b0]) | rw [c10b1] | skip)
  have H' := Aside0.mk H
  clear H
  go_wp2
  go_meet
  case rel => exact ⟨_, ((t486.toList == ([] : List UInt8))), (by first | rfl | (simp; done) | (simp [*]; done)), H', ⟨by first | omega | exact Nat.le_refl _⟩, ⟨by refine bx ?_; exact BK481.out⟩, ⟨by repeat (first | (with_reducible first | exact HB.out | apply below_alloc | apply pw_below_drewN | apply below_drew1 | refine below_set ?_ GE481.out) | exact HB.out)⟩⟩
 case rest =>
  clear HC4
  try clear c1
  try clear p2
  try clear c8
  try clear c9
  try clear c10
  try clear c10b0
  try clear c10b1
  try clear hcz6_0
  try clear hcz6_1
  try clear hcz6_2
  try clear hcz6_3
  try clear hcz8_0
  try clear hcz8_1
  try clear hcz8_2
  try clear hcz8_3
  try clear hfz6_0
  try clear hfz6_1
  try clear hfz6_2
  try clear hfz6_3
  try clear hfz8_0
  try clear hfz8_1
  try clear hfz8_2
  try clear hfz8_3
  obtain ⟨kq, x19_3, rfl, HA, HJ3, BK481, HB⟩ := hcut
  cases kq with
  | zero => exact absurd HA.out (by simp [withylaw03_ColSizes.j0])
  | succ kj3 =>
   have H := HA.out
   clear HA
   simp only [withylaw03_ColSizes.j0] at H
   by_cases c11 : x19_3 = true
   ·subst c11
    have H1 : (if t487 = 0 then (none) else (if t486.toList = ([] : List UInt8) then ((col_Right.f kj3 t482 t483 t484 t485).bind fun t488 => (if t488 = true then (none) else ((withylaw03_fixed.f kj3).bind fun t489 => (some t489)))) else (none))) = some r := by rw [if_pos rfl] at H; exact H
    clear H
    have H := H1
    clear H1
    by_cases c12 : t487 = 0
    ·rw [if_pos c12] at H
     exact absurd H (by simp)
    rw [if_neg c12] at H
    have c12b0 : (t487 == 0) = false := beq_eq_false_iff_ne.mpr c12
    have c12b1 : (t487 != 0) = true := bne_iff_ne.mpr c12
    by_cases c13 : t486.toList = ([] : List UInt8)
    rotate_left
    ·rw [if_neg c13] at H
     exact absurd H (by simp)
    rw [if_pos c13] at H
    have c13b0 : (t486.toList == ([] : List UInt8)) = true := beq_iff_eq.mpr c13
    have c13b1 : (t486.toList != ([] : List UInt8)) = false := bne_eq_false_iff_eq.mpr c13
    clear c13
    replace H := bM H
    obtain ⟨t488, A140, H⟩ := H
    replace H : (if t488 = true then (none) else ((withylaw03_fixed.f kj3).bind fun t489 => (some t489))) = some r := H
    have A14 := Aside0.mk A140
    clear A140
    by_cases c15 : t488 = true
    ·subst c15
     have H1 : (none) = some r := by rw [if_pos rfl] at H; exact H
     clear H
     have H := H1
     clear H1
     exact absurd H (by simp)
    replace c15 := Bool.eq_false_iff.mpr c15
    subst c15
    have H1 : ((withylaw03_fixed.f kj3).bind fun t489 => (some t489)) = some r := by rw [if_neg (show ¬ (false = true) by decide)] at H; exact H
    clear H
    have H := H1
    clear H1
    replace H := bM H
    obtain ⟨t489, A160, H⟩ := H
    replace H : (some t489) = some r := H
    have A16 := Aside0.mk A160
    clear A160
    obtain rfl := Option.some.inj H
    obtain ⟨hcz17_0, hcz17_1, hcz17_2, hcz17_3⟩ := zc4 BK481
    obtain ⟨hfz17_0, hfz17_1, hfz17_2, hfz17_3⟩ := zf4 BK481
    go_wp2_with (first | (go_at_call 15; (with_reducible refine (col_Right.calls kj3 t482 t483 t484 t485 false _ A14.out).mono ?_); rintro e w18 ⟨rfl, hb⟩; replace BK481 := bb BK481 hb; replace HB := as_ (below_step bA hb); (try clear hb); (try clear hb2); (try clear hk); (try clear hi)) | (go_at_call 19; (with_reducible refine (withylaw03_fixed.calls kj3  t489 _ A16.out).mono ?_); rintro e w19 ⟨rfl, hb⟩; replace BK481 := bb BK481 hb; replace HB := as_ (below_step bA hb); (try clear hb); (try clear hb2); (try clear hk); (try clear hi)))
    go_ret
    exact ⟨eW, by repeat (first | (with_reducible first | exact HB.out | apply below_alloc | apply pw_below_drewN | apply below_drew1 | refine below_set ?_ GE481.out) | exact HB.out)⟩
   replace c11 := Bool.eq_false_iff.mpr c11
   subst c11
   have H1 : (if t482 = 2 then (withylaw03_ColSizes.j1 kj3 t486 9 t482 t483 t484 t485) else (withylaw03_ColSizes.j1 kj3 t486 1 t482 t483 t484 t485)) = some r := by rw [if_neg (show ¬ (false = true) by decide)] at H; exact H
   clear H
   have H := H1
   clear H1
   have HC20 := Aside0.mk H
   clear H
   obtain ⟨hcz21_0, hcz21_1, hcz21_2, hcz21_3⟩ := zc4 BK481
   obtain ⟨hfz21_0, hfz21_1, hfz21_2, hfz21_3⟩ := zf4 BK481
   go_upto_if 36 with (fail)
   go_cut [5] (fun v5 wc => ∃ (kq : Nat) (x5_19 : Int), v5 = .int .i64 x5_19 ∧ Aside0 (withylaw03_ColSizes.j1 kq t486 x5_19 t482 t483 t484 t485 = some r) ∧ Aside0 (kq ≤ kj3) ∧ Aside0 (wc.heap[gb481]? = some (.cells #[.int .i64 t482, .int .i64 t483, .int .u64 t484, .string t485] 24 (0, 0))) ∧ Aside0 (Below w.heap.size w wc))
   case first =>
    have H := HC20.out
    clear HC20
    by_cases c22 : t482 = 2
    rotate_left
    ·rw [if_neg c22] at H
     have c22b0 : (t482 == 2) = false := beq_eq_false_iff_ne.mpr c22
     have c22b1 : (t482 != 2) = true := bne_iff_ne.mpr c22
     (first | rw [c22b0] | (simp only [i64_w, i32_w]; rw [c22b0]) | rw [c22b1] | skip)
     have H' := Aside0.mk H
     clear H
     go_wp2
     go_meet
     case rel => exact ⟨_, (1), (by first | rfl | (simp; done) | (simp [*]; done)), H', ⟨by have := HJ3.out; first | omega | exact Nat.le_refl _⟩, ⟨by refine bx ?_; exact BK481.out⟩, ⟨by repeat (first | (with_reducible first | exact HB.out | apply below_alloc | apply pw_below_drewN | apply below_drew1 | refine below_set ?_ GE481.out) | exact HB.out)⟩⟩
    rw [if_pos c22] at H
    have c22b0 : (t482 == 2) = true := beq_iff_eq.mpr c22
    have c22b1 : (t482 != 2) = false := bne_eq_false_iff_eq.mpr c22
    clear c22
    (first | rw [c22b0] | (simp only [i64_w, i32_w]; rw [c22b0]) | rw [c22b1] | skip)
    have H' := Aside0.mk H
    clear H
    go_wp2
    go_meet
    case rel => exact ⟨_, (9), (by first | rfl | (simp; done) | (simp [*]; done)), H', ⟨by have := HJ3.out; first | omega | exact Nat.le_refl _⟩, ⟨by refine bx ?_; exact BK481.out⟩, ⟨by repeat (first | (with_reducible first | exact HB.out | apply below_alloc | apply pw_below_drewN | apply below_drew1 | refine below_set ?_ GE481.out) | exact HB.out)⟩⟩
   case rest =>
    clear HC20
    try clear c1
    try clear c2
    try clear p2
    try clear c8
    try clear c9
    try clear c10
    try clear c10b0
    try clear c10b1
    try clear c11
    try clear c12
    try clear c12b0
    try clear c12b1
    try clear c13
    try clear c13b0
    try clear c13b1
    try clear c15
    try clear c22
    try clear c22b0
    try clear c22b1
    try clear hcz17_0
    try clear hcz17_1
    try clear hcz17_2
    try clear hcz17_3
    try clear hcz21_0
    try clear hcz21_1
    try clear hcz21_2
    try clear hcz21_3
    try clear hcz6_0
    try clear hcz6_1
    try clear hcz6_2
    try clear hcz6_3
    try clear hcz8_0
    try clear hcz8_1
    try clear hcz8_2
    try clear hcz8_3
    try clear hfz17_0
    try clear hfz17_1
    try clear hfz17_2
    try clear hfz17_3
    try clear hfz21_0
    try clear hfz21_1
    try clear hfz21_2
    try clear hfz21_3
    try clear hfz6_0
    try clear hfz6_1
    try clear hfz6_2
    try clear hfz6_3
    try clear hfz8_0
    try clear hfz8_1
    try clear hfz8_2
    try clear hfz8_3
    try clear p2
    obtain ⟨kq, x5_19, rfl, HA, HJ19, BK481, HB⟩ := hcut
    cases kq with
    | zero => exact absurd HA.out (by simp [withylaw03_ColSizes.j1])
    | succ kj19 =>
     have H := HA.out
     clear HA
     simp only [withylaw03_ColSizes.j1] at H
     by_cases c23 : t482 = 4
     rotate_left
     ·rw [if_neg c23] at H
      have c23b0 : (t482 == 4) = false := beq_eq_false_iff_ne.mpr c23
      have c23b1 : (t482 != 4) = true := bne_iff_ne.mpr c23
      by_cases c47 : t482 = 3
      ·rw [if_pos c47] at H
       have c47b0 : (t482 == 3) = true := beq_iff_eq.mpr c47
       have c47b1 : (t482 != 3) = false := bne_eq_false_iff_eq.mpr c47
       clear c47
       by_cases c48 : 0 < (t486.size : Int)
       rotate_left
       ·rw [if_neg c48] at H
        exact absurd H (by simp)
       rw [if_pos c48] at H
       have c48b0 : decide (0 < (t486.size : Int)) = true := decide_eq_true c48
       have c48b1 : decide (0 < t486.size) = true := decide_eq_true (by omega)
       clear c48
       by_cases c50 : (wrap64 (Int.tdiv (wrap64 (bt t486 0)) 16)) = (wrap64 (t482 + 1))
       rotate_left
       ·rw [if_neg c50] at H
        exact absurd H (by simp)
       rw [if_pos c50] at H
       have c50b0 : ((wrap64 (Int.tdiv (wrap64 (bt t486 0)) 16)) == (wrap64 (t482 + 1))) = true := beq_iff_eq.mpr c50
       have c50b1 : ((wrap64 (Int.tdiv (wrap64 (bt t486 0)) 16)) != (wrap64 (t482 + 1))) = false := bne_eq_false_iff_eq.mpr c50
       clear c50
       replace H := bM H
       obtain ⟨t492, A510, H⟩ := H
       replace H : (some t492) = some r := H
       have A51 := Aside0.mk A510
       clear A510
       obtain rfl := Option.some.inj H
       obtain ⟨hcz52_0, hcz52_1, hcz52_2, hcz52_3⟩ := zc4 BK481
       obtain ⟨hfz52_0, hfz52_1, hfz52_2, hfz52_3⟩ := zf4 BK481
       try go_wp2
       replace BK481 := as_ (blk_drew BK481.out)
       replace HB := as_ (below_drew1 HB.out)
       have p49 : 0 ≤ (0 : Int) := (by omega)
       have q49 : 0 < t486.size := (by have : (0 : Int) < (t486.size : Int) := of_decide_eq_true aM; omega)
       have hx49 : ∀ h : 0 < t486.size, ((t486[0]'h).toNat : Int) = bt t486 0 := bt_at t486 0
       clear p49
       have qi49 : (0 < (t486.size : Int)) = True := eq_true (of_decide_eq_true aM)
       replace q49 := eq_true q49
       refine start_ (n := 23) (S := fun w' => w'.cell? ⟨gb481, 0, none⟩ = some (.int .i64 t482) ∧ w'.cell? ⟨gb481, 1, none⟩ = some (.int .i64 t483) ∧ w'.cell? ⟨gb481, 2, none⟩ = some (.int .u64 t484) ∧ w'.cell? ⟨gb481, 3, none⟩ = some (.string t485)) (ds := []) #[ff, ff, ff, ff, ff, ff, ff, ff, ff, ff, ff, ff, ff, ff, ff, ff, ff, ff, ff, ff, ff, ff, ff] (by kernel_rfl) rfl rfl ⟨(blk_cell BK481.out 0).trans rfl, (blk_cell BK481.out 1).trans rfl, (blk_cell BK481.out 2).trans rfl, (blk_cell BK481.out 3).trans rfl⟩ (fun hHeld => ?_); refine with_tabW withylaw03_ColSizes.tab15 withylaw03_ColSizes.bits15 (fun HT_ HW_ => ?_)
       generalize wc.drew = w53 at BK481 HB hHeld ⊢
       refine pure_ (i := 0) (N := some 58) (v := ?_) (a' := ?_) #[tt, ff, ff, ff, ff, ff, ff, ff, ff, ff, ff, ff, ff, ff, ff, ff, ff, ff, ff, ff, ff, ff, ff] rfl rfl (any_of HT_.out (by kernel_rfl)) (fun _ _ _ h => h) (Or.inl ⟨by rfl, ?_⟩) ?_ ?_
       rotate_left
       ·intro w'
        go_simp
        with_reducible rfl
       rotate_left
       ·exact aP
       refine take_ (i := 1) (N := some 59) (v := ?_) (a' := ?_) #[tt, tt, ff, ff, ff, ff, ff, ff, ff, ff, ff, ff, ff, ff, ff, ff, ff, ff, ff, ff, ff, ff, ff] rfl rfl (take_ofW HT_.out HW_.out (by kernel_rfl)) (fun _ _ _ h => h) (Or.inl ⟨by rfl, ?_⟩) hHeld ?_ ?_
       rotate_left
       ·rintro w' ⟨s0, s1, s2, s3⟩
        go_simp
        with_reducible rfl
       rotate_left
       ·exact aP
       refine pure_ (i := 2) (N := some 60) (v := ?_) (a' := ?_) #[tt, tt, tt, ff, ff, ff, ff, ff, ff, ff, ff, ff, ff, ff, ff, ff, ff, ff, ff, ff, ff, ff, ff] rfl rfl (any_of HT_.out (by kernel_rfl)) (fun _ _ _ h => h) (Or.inl ⟨by rfl, ?_⟩) ?_ ?_
       rotate_left
       ·intro w'
        go_simp
        with_reducible rfl
       rotate_left
       ·exact aP
       refine pure_ (i := 3) (N := some 61) (v := ?_) (a' := ?_) #[tt, tt, tt, tt, ff, ff, ff, ff, ff, ff, ff, ff, ff, ff, ff, ff, ff, ff, ff, ff, ff, ff, ff] rfl rfl (any_of HT_.out (by kernel_rfl)) (fun _ _ _ h => h) (Or.inl ⟨by rfl, ?_⟩) ?_ ?_
       rotate_left
       ·intro w'
        go_simp
        with_reducible rfl
       rotate_left
       ·exact aP
       refine pure_ (i := 4) (N := some 62) (v := undef) (a' := ?_) #[tt, tt, tt, tt, tt, ff, ff, ff, ff, ff, ff, ff, ff, ff, ff, ff, ff, ff, ff, ff, ff, ff, ff] rfl rfl (any_of HT_.out (by kernel_rfl)) (fun _ _ _ h => h) (Or.inr ⟨by rfl, rfl⟩) ?_ ?_
       rotate_left
       ·exact aP
       refine pure_ (i := 5) (N := some 63) (v := undef) (a' := ?_) #[tt, tt, tt, tt, tt, tt, ff, ff, ff, ff, ff, ff, ff, ff, ff, ff, ff, ff, ff, ff, ff, ff, ff] rfl rfl (any_of HT_.out (by kernel_rfl)) (fun _ _ _ h => h) (Or.inr ⟨by rfl, rfl⟩) ?_ ?_
       rotate_left
       ·exact aP
       refine pure_ (i := 6) (N := some 64) (v := undef) (a' := ?_) #[tt, tt, tt, tt, tt, tt, tt, ff, ff, ff, ff, ff, ff, ff, ff, ff, ff, ff, ff, ff, ff, ff, ff] rfl rfl (any_of HT_.out (by kernel_rfl)) (fun _ _ _ h => h) (Or.inr ⟨by rfl, rfl⟩) ?_ ?_
       rotate_left
       ·exact aP
       refine pure_ (i := 7) (N := some 65) (v := undef) (a' := ?_) #[tt, tt, tt, tt, tt, tt, tt, tt, ff, ff, ff, ff, ff, ff, ff, ff, ff, ff, ff, ff, ff, ff, ff] rfl rfl (any_of HT_.out (by kernel_rfl)) (fun _ _ _ h => h) (Or.inr ⟨by rfl, rfl⟩) ?_ ?_
       rotate_left
       ·exact aP
       refine pure_ (i := 8) (N := some 66) (v := ?_) (a' := ?_) #[tt, tt, tt, tt, tt, tt, tt, tt, tt, ff, ff, ff, ff, ff, ff, ff, ff, ff, ff, ff, ff, ff, ff] rfl rfl (any_of HT_.out (by kernel_rfl)) (fun _ _ _ h => h) (Or.inl ⟨by rfl, ?_⟩) ?_ ?_
       rotate_left
       ·intro w'
        go_simp
        with_reducible rfl
       rotate_left
       ·exact aP
       refine pure_ (i := 9) (N := some 67) (v := ?_) (a' := ?_) #[tt, tt, tt, tt, tt, tt, tt, tt, tt, tt, ff, ff, ff, ff, ff, ff, ff, ff, ff, ff, ff, ff, ff] rfl rfl (any_of HT_.out (by kernel_rfl)) (fun _ _ _ h => h) (Or.inl ⟨by rfl, ?_⟩) ?_ ?_
       rotate_left
       ·intro w'
        go_simp
        with_reducible rfl
       rotate_left
       ·exact aP
       refine pure_ (i := 10) (N := some 68) (v := ?_) (a' := ?_) #[tt, tt, tt, tt, tt, tt, tt, tt, tt, tt, tt, ff, ff, ff, ff, ff, ff, ff, ff, ff, ff, ff, ff] rfl rfl (any_of HT_.out (by kernel_rfl)) (fun _ _ _ h => h) (Or.inl ⟨by rfl, ?_⟩) ?_ ?_
       rotate_left
       ·intro w'
        go_simp
        with_reducible rfl
       rotate_left
       ·exact aP
       refine pure_ (i := 14) (N := some 72) (v := ?_) (a' := ?_) #[tt, tt, tt, tt, tt, tt, tt, tt, tt, tt, tt, ff, ff, ff, tt, ff, ff, ff, ff, ff, ff, ff, ff] rfl rfl (any_of HT_.out (by kernel_rfl)) (fun _ _ _ h => h) (Or.inl ⟨by rfl, ?_⟩) ?_ ?_
       rotate_left
       ·intro w'
        go_simp
        with_reducible rfl
       rotate_left
       ·exact aP
       refine take_ (i := 11) (N := some 69) (v := ?_) (a' := ?_) #[tt, tt, tt, tt, tt, tt, tt, tt, tt, tt, tt, tt, ff, ff, tt, ff, ff, ff, ff, ff, ff, ff, ff] rfl rfl (take_ofW HT_.out HW_.out (by kernel_rfl)) (fun _ _ _ h => h) (Or.inl ⟨by rfl, ?_⟩) hHeld ?_ ?_
       rotate_left
       ·rintro w' ⟨s0, s1, s2, s3⟩
        go_simp
        with_reducible rfl
       rotate_left
       ·exact aP
       refine pure_ (i := 12) (N := some 70) (v := ?_) (a' := ?_) #[tt, tt, tt, tt, tt, tt, tt, tt, tt, tt, tt, tt, tt, ff, tt, ff, ff, ff, ff, ff, ff, ff, ff] rfl rfl (any_of HT_.out (by kernel_rfl)) (fun _ _ _ h => h) (Or.inl ⟨by rfl, ?_⟩) ?_ ?_
       rotate_left
       ·intro w'
        go_simp
        with_reducible rfl
       rotate_left
       ·exact aP
       refine pure_ (i := 13) (N := some 71) (v := ?_) (a' := ?_) #[tt, tt, tt, tt, tt, tt, tt, tt, tt, tt, tt, tt, tt, tt, tt, ff, ff, ff, ff, ff, ff, ff, ff] rfl rfl (any_of HT_.out (by kernel_rfl)) (fun _ _ _ h => h) (Or.inl ⟨by rfl, ?_⟩) ?_ ?_
       rotate_left
       ·intro w'
        go_simp
        with_reducible rfl
       rotate_left
       ·exact aP
       refine take_ (i := 15) (N := some 73) (v := ?_) (a' := ?_) #[tt, tt, tt, tt, tt, tt, tt, tt, tt, tt, tt, tt, tt, tt, tt, tt, ff, ff, ff, ff, ff, ff, ff] rfl rfl (take_ofW HT_.out HW_.out (by kernel_rfl)) (fun _ _ _ h => h) (Or.inl ⟨by rfl, ?_⟩) hHeld ?_ ?_
       rotate_left
       ·rintro w' ⟨s0, s1, s2, s3⟩
        go_simp
        with_reducible rfl
       rotate_left
       ·exact aP
       refine pure_ (i := 16) (N := some 74) (v := ?_) (a' := ?_) #[tt, tt, tt, tt, tt, tt, tt, tt, tt, tt, tt, tt, tt, tt, tt, tt, tt, ff, ff, ff, ff, ff, ff] rfl rfl (any_of HT_.out (by kernel_rfl)) (fun _ _ _ h => h) (Or.inl ⟨by rfl, ?_⟩) ?_ ?_
       rotate_left
       ·intro w'
        go_simp
        with_reducible rfl
       rotate_left
       ·exact aP
       refine pure_ (i := 17) (N := some 75) (v := ?_) (a' := ?_) #[tt, tt, tt, tt, tt, tt, tt, tt, tt, tt, tt, tt, tt, tt, tt, tt, tt, tt, ff, ff, ff, ff, ff] rfl rfl (any_of HT_.out (by kernel_rfl)) (fun _ _ _ h => h) (Or.inl ⟨by rfl, ?_⟩) ?_ ?_
       rotate_left
       ·intro w'
        go_simp
        with_reducible rfl
       rotate_left
       ·exact aP
       refine pure_ (i := 18) (N := some 76) (v := ?_) (a' := ?_) #[tt, tt, tt, tt, tt, tt, tt, tt, tt, tt, tt, tt, tt, tt, tt, tt, tt, tt, tt, ff, ff, ff, ff] rfl rfl (any_of HT_.out (by kernel_rfl)) (fun _ _ _ h => h) (Or.inl ⟨by rfl, ?_⟩) ?_ ?_
       rotate_left
       ·intro w'
        go_simp
        with_reducible rfl
       rotate_left
       ·exact aP
       refine pure_ (i := 19) (N := some 77) (v := ?_) (a' := ?_) #[tt, tt, tt, tt, tt, tt, tt, tt, tt, tt, tt, tt, tt, tt, tt, tt, tt, tt, tt, tt, ff, ff, ff] rfl rfl (any_of HT_.out (by kernel_rfl)) (fun _ _ _ h => h) (Or.inl ⟨by rfl, ?_⟩) ?_ ?_
       rotate_left
       ·intro w'
        go_simp
        with_reducible rfl
       rotate_left
       ·exact aP
       refine one_ (i := 20) (N := some 78) #[tt, tt, tt, tt, tt, tt, tt, tt, tt, tt, tt, tt, tt, tt, tt, tt, tt, tt, tt, tt, tt, ff, ff] rfl rfl (one_of HT_.out (by kernel_rfl)) (by decide) (fun K hK => ?_)
       refine goes_ Tryd.func19 (by kernel_rfl) rfl #[] (by rfl) rfl rfl aO ?_
       with_reducible refine (withylaw03_fixed.calls kj19  t492 _ A51.out).mono ?_
       rintro e w54 ⟨rfl, hb⟩
       refine ⟨_, rfl, ?_⟩
       replace BK481 := bb BK481 hb
       replace HB := as_ (below_step bA hb)
       (try clear hb)
       (try clear hb2)
       (try clear hk)
       (try clear hi)
       refine hK.out _ _ ⟨(blk_cell BK481.out 0).trans rfl, (blk_cell BK481.out 1).trans rfl, (blk_cell BK481.out 2).trans rfl, (blk_cell BK481.out 3).trans rfl⟩ (fun hHeld => ?_)
       clear hK K
       refine norm_ (a' := ?_) ?_ ?_
       rotate_left
       ·show Act.put _ (some 78) _ = _
        simp only [Act.put, List.setIfInBounds_toArray, List.set_cons_zero, List.set_cons_succ, i64_w, i32_w]
        rfl
       refine pure_ (i := 21) (N := some 79) (v := ?_) (a' := ?_) #[tt, tt, tt, tt, tt, tt, tt, tt, tt, tt, tt, tt, tt, tt, tt, tt, tt, tt, tt, tt, tt, tt, ff] rfl rfl (any_of HT_.out (by kernel_rfl)) (fun _ _ _ h => h) (Or.inl ⟨by rfl, ?_⟩) ?_ ?_
       rotate_left
       ·intro w'
        go_simp
        with_reducible rfl
       rotate_left
       ·exact aP
       refine pure_ (i := 22) (N := some 2) (v := ?_) (a' := ?_) #[tt, tt, tt, tt, tt, tt, tt, tt, tt, tt, tt, tt, tt, tt, tt, tt, tt, tt, tt, tt, tt, tt, tt] rfl rfl (any_of HT_.out (by kernel_rfl)) (fun _ _ _ h => h) (Or.inl ⟨by rfl, ?_⟩) ?_ ?_
       rotate_left
       ·intro w'
        go_simp
        with_reducible rfl
       rotate_left
       ·exact aP
       refine done_ (done_of HT_.out (by kernel_rfl)) ?_
       try go_wp2
       go_ret
       exact ⟨eW, by repeat (first | (with_reducible first | exact HB.out | apply below_alloc | apply pw_below_drewN | apply below_drew1 | refine below_set ?_ GE481.out) | exact HB.out)⟩
      rw [if_neg c47] at H
      have c47b0 : (t482 == 3) = false := beq_eq_false_iff_ne.mpr c47
      have c47b1 : (t482 != 3) = true := bne_iff_ne.mpr c47
      by_cases c55 : (t486.size : Int) = x5_19
      rotate_left
      ·rw [if_neg c55] at H
       exact absurd H (by simp)
  
      rw [if_pos c55] at H
      have c55b0 : ((t486.size : Int) == x5_19) = true := beq_iff_eq.mpr c55
      have c55b1 : ((t486.size : Int) != x5_19) = false := bne_eq_false_iff_eq.mpr c55
      clear c55
      by_cases c56 : 0 < (t486.size : Int)
      rotate_left
      ·rw [if_neg c56] at H
       exact absurd H (by simp)
      rw [if_pos c56] at H
      have c56b0 : decide (0 < (t486.size : Int)) = true := decide_eq_true c56
      have c56b1 : decide (0 < t486.size) = true := decide_eq_true (by omega)
      clear c56
      by_cases c58 : (wrap64 (Int.tdiv (wrap64 (bt t486 0)) 16)) = (wrap64 (t482 + 1))
      rotate_left
      ·rw [if_neg c58] at H
       exact absurd H (by simp)
      rw [if_pos c58] at H
      have c58b0 : ((wrap64 (Int.tdiv (wrap64 (bt t486 0)) 16)) == (wrap64 (t482 + 1))) = true := beq_iff_eq.mpr c58
      have c58b1 : ((wrap64 (Int.tdiv (wrap64 (bt t486 0)) 16)) != (wrap64 (t482 + 1))) = false := bne_eq_false_iff_eq.mpr c58
      clear c58
      replace H := bM H
      obtain ⟨t493, A590, H⟩ := H
      replace H : (some t493) = some r := H
      have A59 := Aside0.mk A590
      clear A590
      obtain rfl := Option.some.inj H
      obtain ⟨hcz60_0, hcz60_1, hcz60_2, hcz60_3⟩ := zc4 BK481
      obtain ⟨hfz60_0, hfz60_1, hfz60_2, hfz60_3⟩ := zf4 BK481
      try go_wp2
      replace BK481 := as_ (blk_drew BK481.out)
      replace HB := as_ (below_drew1 HB.out)
      have p57 : 0 ≤ (0 : Int) := (by omega)
      have q57 : 0 < t486.size := (by have : (0 : Int) < (t486.size : Int) := of_decide_eq_true aM; omega)
      have hx57 : ∀ h : 0 < t486.size, ((t486[0]'h).toNat : Int) = bt t486 0 := bt_at t486 0
      clear p57
      have qi57 : (0 < (t486.size : Int)) = True := eq_true (of_decide_eq_true aM)
      replace q57 := eq_true q57
      refine start_ (n := 23) (S := fun w' => w'.cell? ⟨gb481, 0, none⟩ = some (.int .i64 t482) ∧ w'.cell? ⟨gb481, 1, none⟩ = some (.int .i64 t483) ∧ w'.cell? ⟨gb481, 2, none⟩ = some (.int .u64 t484) ∧ w'.cell? ⟨gb481, 3, none⟩ = some (.string t485)) (ds := []) #[ff, ff, ff, ff, ff, ff, ff, ff, ff, ff, ff, ff, ff, ff, ff, ff, ff, ff, ff, ff, ff, ff, ff] (by kernel_rfl) rfl rfl ⟨(blk_cell BK481.out 0).trans rfl, (blk_cell BK481.out 1).trans rfl, (blk_cell BK481.out 2).trans rfl, (blk_cell BK481.out 3).trans rfl⟩ (fun hHeld => ?_); refine with_tabW withylaw03_ColSizes.tab15 withylaw03_ColSizes.bits15 (fun HT_ HW_ => ?_)
      generalize wc.drew = w61 at BK481 HB hHeld ⊢
      refine pure_ (i := 0) (N := some 58) (v := ?_) (a' := ?_) #[tt, ff, ff, ff, ff, ff, ff, ff, ff, ff, ff, ff, ff, ff, ff, ff, ff, ff, ff, ff, ff, ff, ff] rfl rfl (any_of HT_.out (by kernel_rfl)) (fun _ _ _ h => h) (Or.inl ⟨by rfl, ?_⟩) ?_ ?_
      rotate_left
      ·intro w'
       go_simp
       with_reducible rfl
      rotate_left
      ·exact aP
      refine take_ (i := 1) (N := some 59) (v := ?_) (a' := ?_) #[tt, tt, ff, ff, ff, ff, ff, ff, ff, ff, ff, ff, ff, ff, ff, ff, ff, ff, ff, ff, ff, ff, ff] rfl rfl (take_ofW HT_.out HW_.out (by kernel_rfl)) (fun _ _ _ h => h) (Or.inl ⟨by rfl, ?_⟩) hHeld ?_ ?_
      rotate_left
      ·rintro w' ⟨s0, s1, s2, s3⟩
       go_simp
       with_reducible rfl
      rotate_left
      ·exact aP
      refine pure_ (i := 2) (N := some 60) (v := ?_) (a' := ?_) #[tt, tt, tt, ff, ff, ff, ff, ff, ff, ff, ff, ff, ff, ff, ff, ff, ff, ff, ff, ff, ff, ff, ff] rfl rfl (any_of HT_.out (by kernel_rfl)) (fun _ _ _ h => h) (Or.inl ⟨by rfl, ?_⟩) ?_ ?_
      rotate_left
      ·intro w'
       go_simp
       with_reducible rfl
      rotate_left
      ·exact aP
      refine pure_ (i := 3) (N := some 61) (v := ?_) (a' := ?_) #[tt, tt, tt, tt, ff, ff, ff, ff, ff, ff, ff, ff, ff, ff, ff, ff, ff, ff, ff, ff, ff, ff, ff] rfl rfl (any_of HT_.out (by kernel_rfl)) (fun _ _ _ h => h) (Or.inl ⟨by rfl, ?_⟩) ?_ ?_
      rotate_left
      ·intro w'
       go_simp
       with_reducible rfl
      rotate_left
      ·exact aP
      refine pure_ (i := 4) (N := some 62) (v := ?_) (a' := ?_) #[tt, tt, tt, tt, tt, ff, ff, ff, ff, ff, ff, ff, ff, ff, ff, ff, ff, ff, ff, ff, ff, ff, ff] rfl rfl (any_of HT_.out (by kernel_rfl)) (fun _ _ _ h => h) (Or.inl ⟨by rfl, ?_⟩) ?_ ?_
      rotate_left
      ·intro w'
       go_simp
       with_reducible rfl
      rotate_left
      ·exact aP
      refine pure_ (i := 5) (N := some 63) (v := ?_) (a' := ?_) #[tt, tt, tt, tt, tt, tt, ff, ff, ff, ff, ff, ff, ff, ff, ff, ff, ff, ff, ff, ff, ff, ff, ff] rfl rfl (any_of HT_.out (by kernel_rfl)) (fun _ _ _ h => h) (Or.inl ⟨by rfl, ?_⟩) ?_ ?_
      rotate_left
      ·intro w'
       go_simp
       with_reducible rfl
      rotate_left
      ·exact aP
      refine pure_ (i := 6) (N := some 64) (v := ?_) (a' := ?_) #[tt, tt, tt, tt, tt, tt, tt, ff, ff, ff, ff, ff, ff, ff, ff, ff, ff, ff, ff, ff, ff, ff, ff] rfl rfl (any_of HT_.out (by kernel_rfl)) (fun _ _ _ h => h) (Or.inl ⟨by rfl, ?_⟩) ?_ ?_
      rotate_left
      ·intro w'
       go_simp
       with_reducible rfl
      rotate_left
      ·exact aP
      refine pure_ (i := 7) (N := some 65) (v := ?_) (a' := ?_) #[tt, tt, tt, tt, tt, tt, tt, tt, ff, ff, ff, ff, ff, ff, ff, ff, ff, ff, ff, ff, ff, ff, ff] rfl rfl (any_of HT_.out (by kernel_rfl)) (fun _ _ _ h => h) (Or.inl ⟨by rfl, ?_⟩) ?_ ?_
      rotate_left
      ·intro w'
       go_simp
       with_reducible rfl
      rotate_left
      ·exact aP
      refine pure_ (i := 8) (N := some 66) (v := ?_) (a' := ?_) #[tt, tt, tt, tt, tt, tt, tt, tt, tt, ff, ff, ff, ff, ff, ff, ff, ff, ff, ff, ff, ff, ff, ff] rfl rfl (any_of HT_.out (by kernel_rfl)) (fun _ _ _ h => h) (Or.inl ⟨by rfl, ?_⟩) ?_ ?_
      rotate_left
      ·intro w'
       go_simp
       with_reducible rfl
      rotate_left
      ·exact aP
      refine pure_ (i := 9) (N := some 67) (v := ?_) (a' := ?_) #[tt, tt, tt, tt, tt, tt, tt, tt, tt, tt, ff, ff, ff, ff, ff, ff, ff, ff, ff, ff, ff, ff, ff] rfl rfl (any_of HT_.out (by kernel_rfl)) (fun _ _ _ h => h) (Or.inl ⟨by rfl, ?_⟩) ?_ ?_
      rotate_left
      ·intro w'
       go_simp
       with_reducible rfl
      rotate_left
      ·exact aP
      refine pure_ (i := 10) (N := some 68) (v := ?_) (a' := ?_) #[tt, tt, tt, tt, tt, tt, tt, tt, tt, tt, tt, ff, ff, ff, ff, ff, ff, ff, ff, ff, ff, ff, ff] rfl rfl (any_of HT_.out (by kernel_rfl)) (fun _ _ _ h => h) (Or.inl ⟨by rfl, ?_⟩) ?_ ?_
      rotate_left
      ·intro w'
       go_simp
       with_reducible rfl
      rotate_left
      ·exact aP
      refine pure_ (i := 14) (N := some 72) (v := ?_) (a' := ?_) #[tt, tt, tt, tt, tt, tt, tt, tt, tt, tt, tt, ff, ff, ff, tt, ff, ff, ff, ff, ff, ff, ff, ff] rfl rfl (any_of HT_.out (by kernel_rfl)) (fun _ _ _ h => h) (Or.inl ⟨by rfl, ?_⟩) ?_ ?_
      rotate_left
      ·intro w'
       go_simp
       with_reducible rfl
      rotate_left
      ·exact aP
      refine take_ (i := 11) (N := some 69) (v := ?_) (a' := ?_) #[tt, tt, tt, tt, tt, tt, tt, tt, tt, tt, tt, tt, ff, ff, tt, ff, ff, ff, ff, ff, ff, ff, ff] rfl rfl (take_ofW HT_.out HW_.out (by kernel_rfl)) (fun _ _ _ h => h) (Or.inl ⟨by rfl, ?_⟩) hHeld ?_ ?_
      rotate_left
      ·rintro w' ⟨s0, s1, s2, s3⟩
       go_simp
       with_reducible rfl
      rotate_left
      ·exact aP
      refine pure_ (i := 12) (N := some 70) (v := ?_) (a' := ?_) #[tt, tt, tt, tt, tt, tt, tt, tt, tt, tt, tt, tt, tt, ff, tt, ff, ff, ff, ff, ff, ff, ff, ff] rfl rfl (any_of HT_.out (by kernel_rfl)) (fun _ _ _ h => h) (Or.inl ⟨by rfl, ?_⟩) ?_ ?_
      rotate_left
      ·intro w'
       go_simp
       with_reducible rfl
      rotate_left
      ·exact aP
      refine pure_ (i := 13) (N := some 71) (v := ?_) (a' := ?_) #[tt, tt, tt, tt, tt, tt, tt, tt, tt, tt, tt, tt, tt, tt, tt, ff, ff, ff, ff, ff, ff, ff, ff] rfl rfl (any_of HT_.out (by kernel_rfl)) (fun _ _ _ h => h) (Or.inl ⟨by rfl, ?_⟩) ?_ ?_
      rotate_left
      ·intro w'
       go_simp
       with_reducible rfl
      rotate_left
      ·exact aP
      refine take_ (i := 15) (N := some 73) (v := ?_) (a' := ?_) #[tt, tt, tt, tt, tt, tt, tt, tt, tt, tt, tt, tt, tt, tt, tt, tt, ff, ff, ff, ff, ff, ff, ff] rfl rfl (take_ofW HT_.out HW_.out (by kernel_rfl)) (fun _ _ _ h => h) (Or.inl ⟨by rfl, ?_⟩) hHeld ?_ ?_
      rotate_left
      ·rintro w' ⟨s0, s1, s2, s3⟩
       go_simp
       with_reducible rfl
      rotate_left
      ·exact aP
      refine pure_ (i := 16) (N := some 74) (v := ?_) (a' := ?_) #[tt, tt, tt, tt, tt, tt, tt, tt, tt, tt, tt, tt, tt, tt, tt, tt, tt, ff, ff, ff, ff, ff, ff] rfl rfl (any_of HT_.out (by kernel_rfl)) (fun _ _ _ h => h) (Or.inl ⟨by rfl, ?_⟩) ?_ ?_
      rotate_left
      ·intro w'
       go_simp
       with_reducible rfl
      rotate_left
      ·exact aP
      refine pure_ (i := 17) (N := some 75) (v := ?_) (a' := ?_) #[tt, tt, tt, tt, tt, tt, tt, tt, tt, tt, tt, tt, tt, tt, tt, tt, tt, tt, ff, ff, ff, ff, ff] rfl rfl (any_of HT_.out (by kernel_rfl)) (fun _ _ _ h => h) (Or.inl ⟨by rfl, ?_⟩) ?_ ?_
      rotate_left
      ·intro w'
       go_simp
       with_reducible rfl
      rotate_left
      ·exact aP
      refine pure_ (i := 18) (N := some 76) (v := ?_) (a' := ?_) #[tt, tt, tt, tt, tt, tt, tt, tt, tt, tt, tt, tt, tt, tt, tt, tt, tt, tt, tt, ff, ff, ff, ff] rfl rfl (any_of HT_.out (by kernel_rfl)) (fun _ _ _ h => h) (Or.inl ⟨by rfl, ?_⟩) ?_ ?_
      rotate_left
      ·intro w'
       go_simp
       with_reducible rfl
      rotate_left
      ·exact aP
      refine pure_ (i := 19) (N := some 77) (v := ?_) (a' := ?_) #[tt, tt, tt, tt, tt, tt, tt, tt, tt, tt, tt, tt, tt, tt, tt, tt, tt, tt, tt, tt, ff, ff, ff] rfl rfl (any_of HT_.out (by kernel_rfl)) (fun _ _ _ h => h) (Or.inl ⟨by rfl, ?_⟩) ?_ ?_
      rotate_left
      ·intro w'
       go_simp
       with_reducible rfl
      rotate_left
      ·exact aP
      refine one_ (i := 20) (N := some 78) #[tt, tt, tt, tt, tt, tt, tt, tt, tt, tt, tt, tt, tt, tt, tt, tt, tt, tt, tt, tt, tt, ff, ff] rfl rfl (one_of HT_.out (by kernel_rfl)) (by decide) (fun K hK => ?_)
      refine goes_ Tryd.func19 (by kernel_rfl) rfl #[] (by rfl) rfl rfl aO ?_
      with_reducible refine (withylaw03_fixed.calls kj19  t493 _ A59.out).mono ?_
      rintro e w62 ⟨rfl, hb⟩
      refine ⟨_, rfl, ?_⟩
      replace BK481 := bb BK481 hb
      replace HB := as_ (below_step bA hb)
      (try clear hb)
      (try clear hb2)
      (try clear hk)
      (try clear hi)
      refine hK.out _ _ ⟨(blk_cell BK481.out 0).trans rfl, (blk_cell BK481.out 1).trans rfl, (blk_cell BK481.out 2).trans rfl, (blk_cell BK481.out 3).trans rfl⟩ (fun hHeld => ?_)
      clear hK K
      refine norm_ (a' := ?_) ?_ ?_
      rotate_left
      ·show Act.put _ (some 78) _ = _
       simp only [Act.put, List.setIfInBounds_toArray, List.set_cons_zero, List.set_cons_succ, i64_w, i32_w]
       rfl
      refine pure_ (i := 21) (N := some 79) (v := ?_) (a' := ?_) #[tt, tt, tt, tt, tt, tt, tt, tt, tt, tt, tt, tt, tt, tt, tt, tt, tt, tt, tt, tt, tt, tt, ff] rfl rfl (any_of HT_.out (by kernel_rfl)) (fun _ _ _ h => h) (Or.inl ⟨by rfl, ?_⟩) ?_ ?_
      rotate_left
      ·intro w'
       go_simp
       with_reducible rfl
      rotate_left
      ·exact aP
      refine pure_ (i := 22) (N := some 2) (v := ?_) (a' := ?_) #[tt, tt, tt, tt, tt, tt, tt, tt, tt, tt, tt, tt, tt, tt, tt, tt, tt, tt, tt, tt, tt, tt, tt] rfl rfl (any_of HT_.out (by kernel_rfl)) (fun _ _ _ h => h) (Or.inl ⟨by rfl, ?_⟩) ?_ ?_
      rotate_left
      ·intro w'
       go_simp
       with_reducible rfl
      rotate_left
      ·exact aP
      refine done_ (done_of HT_.out (by kernel_rfl)) ?_
      try go_wp2
      go_ret
      exact ⟨eW, by repeat (first | (with_reducible first | exact HB.out | apply below_alloc | apply pw_below_drewN | apply below_drew1 | refine below_set ?_ GE481.out) | exact HB.out)⟩
     rw [if_pos c23] at H
     have c23b0 : (t482 == 4) = true := beq_iff_eq.mpr c23
     have c23b1 : (t482 != 4) = false := bne_eq_false_iff_eq.mpr c23
     clear c23
     have H' := Aside0.mk H
     clear H
     obtain ⟨hcz24_0, hcz24_1, hcz24_2, hcz24_3⟩ := zc4 BK481
     obtain ⟨hfz24_0, hfz24_1, hfz24_2, hfz24_3⟩ := zf4 BK481
     go_wp2
     go_loopg [5, 6] kj19 (fun kq v5 v6 w' => ∃ (x5_3 : Int) (x6_3 : Int), v5 = .int .i64 x5_3 ∧ v6 = .int .i64 x6_3 ∧ Aside0 (withylaw03_ColSizes.l0 kq t486 x5_3 x6_3 t482 t483 t484 t485 = some r) ∧ Aside0 (kq ≤ kj19) ∧ Aside0 (w'.heap[gb481]? = some (.cells #[.int .i64 t482, .int .i64 t483, .int .u64 t484, .string t485] 24 (0, 0))) ∧ Aside0 (Below w.heap.size w w'))
     case atStart => exact ⟨(wrap64 (3 + (t485.size : Int))), (0), (by first | rfl | (simp; done) | (simp [*]; done)), (by first | rfl | (simp; done) | (simp [*]; done)), H', ⟨Nat.le_refl _⟩, ⟨by refine bx ?_; exact BK481.out⟩, ⟨by repeat (first | (with_reducible first | exact HB.out | apply below_alloc | apply pw_below_drewN | apply below_drew1 | refine below_set ?_ GE481.out) | exact HB.out)⟩⟩
     case round =>
      clear H'
      try clear c1
      try clear c2
      try clear p2
      try clear p6
      try clear c8
      try clear c9
      try clear c10
      try clear c10b0
      try clear c10b1
      try clear c11
      try clear c12
      try clear c12b0
      try clear c12b1
      try clear c13
      try clear c13b0
      try clear c13b1
      try clear c15
      try clear c22
      try clear c22b0
      try clear c22b1
      try clear c23
      try clear c23b0
      try clear c23b1
      try clear hcz17_0
      try clear hcz17_1
      try clear hcz17_2
      try clear hcz17_3
      try clear hcz21_0
      try clear hcz21_1
      try clear hcz21_2
      try clear hcz21_3
      try clear hcz24_0
      try clear hcz24_1
      try clear hcz24_2
      try clear hcz24_3
      try clear hcz6_0
      try clear hcz6_1
      try clear hcz6_2
      try clear hcz6_3
      try clear hcz8_0
      try clear hcz8_1
      try clear hcz8_2
      try clear hcz8_3
      try clear hfz17_0
      try clear hfz17_1
      try clear hfz17_2
      try clear hfz17_3
      try clear hfz21_0
      try clear hfz21_1
      try clear hfz21_2
      try clear hfz21_3
      try clear hfz24_0
      try clear hfz24_1
      try clear hfz24_2
      try clear hfz24_3
      try clear hfz6_0
      try clear hfz6_1
      try clear hfz6_2
      try clear hfz6_3
      try clear hfz8_0
      try clear hfz8_1
      try clear hfz8_2
      try clear hfz8_3
      try clear p2
      obtain ⟨x5_3, x6_3, rfl, rfl, HA, HK3, BK481, HB⟩ := hrel
      cases gk with
      | zero => exact absurd HA.out (by simp [withylaw03_ColSizes.l0])
      | succ k3 =>
       have H := HA.out
       clear HA
       simp only [withylaw03_ColSizes.l0] at H
       by_cases c25 : x6_3 < (t485.size : Int)
       ·rw [if_pos c25] at H
        have c25b0 : decide (x6_3 < (t485.size : Int)) = true := decide_eq_true c25
        clear c25
        by_cases c26 : 0 ≤ x6_3
        rotate_left
        ·rw [if_neg c26] at H
         exact absurd H (by simp)
        rw [if_pos c26] at H
        have c26b0 : decide (0 ≤ x6_3) = true := decide_eq_true c26
        clear c26
        by_cases c28 : (bt t485 x6_3) = 0
        rotate_left
        ·rw [if_neg c28] at H
         have c28b0 : ((bt t485 x6_3) == 0) = false := beq_eq_false_iff_ne.mpr c28
         have c28b1 : ((bt t485 x6_3) != 0) = true := bne_iff_ne.mpr c28
         have H' := Aside0.mk H
         clear H
         obtain ⟨hcz30_0, hcz30_1, hcz30_2, hcz30_3⟩ := zc4 BK481
         obtain ⟨hfz30_0, hfz30_1, hfz30_2, hfz30_3⟩ := zf4 BK481
         have p27 : 0 ≤ (x6_3 : Int) := of_decide_eq_true aM
         have q27 : x6_3 < (t485.size : Int) := of_decide_eq_true aM
         have hx27 := bt_at t485 x6_3
         replace p27 := eq_true p27
         replace q27 := eq_true q27
         go_wp2
         go_roundg k3
         case measure => have := HJ3.out; have := HJ19.out; have := HK3.out; omega
         case rel => exact ⟨(x5_3), (wrap64 (x6_3 + 1)), (by first | rfl | (simp; done) | (simp [*]; done)), (by first | rfl | (simp; done) | (simp [*]; done)), H', ⟨by have := HJ3.out; have := HJ19.out; have := HK3.out; omega⟩, ⟨by refine bx ?_; exact BK481.out⟩, ⟨by repeat (first | (with_reducible first | exact HB.out | apply below_alloc | apply pw_below_drewN | apply below_drew1 | refine below_set ?_ GE481.out) | exact HB.out)⟩⟩
        rw [if_pos c28] at H
        have c28b0 : ((bt t485 x6_3) == 0) = true := beq_iff_eq.mpr c28
        have c28b1 : ((bt t485 x6_3) != 0) = false := bne_eq_false_iff_eq.mpr c28
        clear c28
        have H' := Aside0.mk H
        clear H
        obtain ⟨hcz29_0, hcz29_1, hcz29_2, hcz29_3⟩ := zc4 BK481
        obtain ⟨hfz29_0, hfz29_1, hfz29_2, hfz29_3⟩ := zf4 BK481
        have p27 : 0 ≤ (x6_3 : Int) := of_decide_eq_true aM
        have q27 : x6_3 < (t485.size : Int) := of_decide_eq_true aM
        have hx27 := bt_at t485 x6_3
        replace p27 := eq_true p27
        replace q27 := eq_true q27
        go_wp2
        go_roundg k3
        case measure => have := HJ3.out; have := HJ19.out; have := HK3.out; omega
        case rel => exact ⟨(wrap64 (x5_3 + 1)), (wrap64 (x6_3 + 1)), (by first | rfl | (simp; done) | (simp [*]; done)), (by first | rfl | (simp; done) | (simp [*]; done)), H', ⟨by have := HJ3.out; have := HJ19.out; have := HK3.out; omega⟩, ⟨by refine bx ?_; exact BK481.out⟩, ⟨by repeat (first | (with_reducible first | exact HB.out | apply below_alloc | apply pw_below_drewN | apply below_drew1 | refine below_set ?_ GE481.out) | exact HB.out)⟩⟩
       rw [if_neg c25] at H
       have c25b0 : decide (x6_3 < (t485.size : Int)) = false := decide_eq_false c25
       clear c25
       by_cases c31 : t482 = 3
       ·rw [if_pos c31] at H
        have c31b0 : (t482 == 3) = true := beq_iff_eq.mpr c31
        have c31b1 : (t482 != 3) = false := bne_eq_false_iff_eq.mpr c31
        clear c31
        by_cases c32 : 0 < (t486.size : Int)
        rotate_left
        ·rw [if_neg c32] at H
         exact absurd H (by simp)
        rw [if_pos c32] at H
        have c32b0 : decide (0 < (t486.size : Int)) = true := decide_eq_true c32
        have c32b1 : decide (0 < t486.size) = true := decide_eq_true (by omega)
        clear c32
        by_cases c34 : (wrap64 (Int.tdiv (wrap64 (bt t486 0)) 16)) = (wrap64 (t482 + 1))
        rotate_left
        ·rw [if_neg c34] at H
         exact absurd H (by simp)
        rw [if_pos c34] at H
        have c34b0 : ((wrap64 (Int.tdiv (wrap64 (bt t486 0)) 16)) == (wrap64 (t482 + 1))) = true := beq_iff_eq.mpr c34
        have c34b1 : ((wrap64 (Int.tdiv (wrap64 (bt t486 0)) 16)) != (wrap64 (t482 + 1))) = false := bne_eq_false_iff_eq.mpr c34
        clear c34
        replace H := bM H
        obtain ⟨t490, A350, H⟩ := H
        replace H : (some t490) = some r := H
        have A35 := Aside0.mk A350
        clear A350
        obtain rfl := Option.some.inj H
        obtain ⟨hcz36_0, hcz36_1, hcz36_2, hcz36_3⟩ := zc4 BK481
        obtain ⟨hfz36_0, hfz36_1, hfz36_2, hfz36_3⟩ := zf4 BK481
        try go_wp2
        replace BK481 := as_ (blk_drew BK481.out)
        replace HB := as_ (below_drew1 HB.out)
        have p33 : 0 ≤ (0 : Int) := (by omega)
        have q33 : 0 < t486.size := (by have : (0 : Int) < (t486.size : Int) := of_decide_eq_true aM; omega)
        have hx33 : ∀ h : 0 < t486.size, ((t486[0]'h).toNat : Int) = bt t486 0 := bt_at t486 0
        clear p33
        have qi33 : (0 < (t486.size : Int)) = True := eq_true (of_decide_eq_true aM)
        replace q33 := eq_true q33
        refine start_ (n := 23) (S := fun w' => w'.cell? ⟨gb481, 0, none⟩ = some (.int .i64 t482) ∧ w'.cell? ⟨gb481, 1, none⟩ = some (.int .i64 t483) ∧ w'.cell? ⟨gb481, 2, none⟩ = some (.int .u64 t484) ∧ w'.cell? ⟨gb481, 3, none⟩ = some (.string t485)) (ds := []) #[ff, ff, ff, ff, ff, ff, ff, ff, ff, ff, ff, ff, ff, ff, ff, ff, ff, ff, ff, ff, ff, ff, ff] (by kernel_rfl) rfl rfl ⟨(blk_cell BK481.out 0).trans rfl, (blk_cell BK481.out 1).trans rfl, (blk_cell BK481.out 2).trans rfl, (blk_cell BK481.out 3).trans rfl⟩ (fun hHeld => ?_); refine with_tabW withylaw03_ColSizes.tab15 withylaw03_ColSizes.bits15 (fun HT_ HW_ => ?_)
        generalize wr.drew = w37 at BK481 HB hHeld ⊢
        refine pure_ (i := 0) (N := some 58) (v := ?_) (a' := ?_) #[tt, ff, ff, ff, ff, ff, ff, ff, ff, ff, ff, ff, ff, ff, ff, ff, ff, ff, ff, ff, ff, ff, ff] rfl rfl (any_of HT_.out (by kernel_rfl)) (fun _ _ _ h => h) (Or.inl ⟨by rfl, ?_⟩) ?_ ?_
        rotate_left
        ·intro w'
         go_simp
         with_reducible rfl
        rotate_left
        ·exact aP
        refine take_ (i := 1) (N := some 59) (v := ?_) (a' := ?_) #[tt, tt, ff, ff, ff, ff, ff, ff, ff, ff, ff, ff, ff, ff, ff, ff, ff, ff, ff, ff, ff, ff, ff] rfl rfl (take_ofW HT_.out HW_.out (by kernel_rfl)) (fun _ _ _ h => h) (Or.inl ⟨by rfl, ?_⟩) hHeld ?_ ?_
        rotate_left
        ·rintro w' ⟨s0, s1, s2, s3⟩
         go_simp
         with_reducible rfl
        rotate_left
        ·exact aP
        refine pure_ (i := 2) (N := some 60) (v := ?_) (a' := ?_) #[tt, tt, tt, ff, ff, ff, ff, ff, ff, ff, ff, ff, ff, ff, ff, ff, ff, ff, ff, ff, ff, ff, ff] rfl rfl (any_of HT_.out (by kernel_rfl)) (fun _ _ _ h => h) (Or.inl ⟨by rfl, ?_⟩) ?_ ?_
        rotate_left
        ·intro w'
         go_simp
         with_reducible rfl
        rotate_left
        ·exact aP
        refine pure_ (i := 3) (N := some 61) (v := ?_) (a' := ?_) #[tt, tt, tt, tt, ff, ff, ff, ff, ff, ff, ff, ff, ff, ff, ff, ff, ff, ff, ff, ff, ff, ff, ff] rfl rfl (any_of HT_.out (by kernel_rfl)) (fun _ _ _ h => h) (Or.inl ⟨by rfl, ?_⟩) ?_ ?_
        rotate_left
        ·intro w'
         go_simp
         with_reducible rfl
        rotate_left
        ·exact aP
        refine pure_ (i := 4) (N := some 62) (v := undef) (a' := ?_) #[tt, tt, tt, tt, tt, ff, ff, ff, ff, ff, ff, ff, ff, ff, ff, ff, ff, ff, ff, ff, ff, ff, ff] rfl rfl (any_of HT_.out (by kernel_rfl)) (fun _ _ _ h => h) (Or.inr ⟨by rfl, rfl⟩) ?_ ?_
        rotate_left
        ·exact aP
        refine pure_ (i := 5) (N := some 63) (v := undef) (a' := ?_) #[tt, tt, tt, tt, tt, tt, ff, ff, ff, ff, ff, ff, ff, ff, ff, ff, ff, ff, ff, ff, ff, ff, ff] rfl rfl (any_of HT_.out (by kernel_rfl)) (fun _ _ _ h => h) (Or.inr ⟨by rfl, rfl⟩) ?_ ?_
        rotate_left
        ·exact aP
        refine pure_ (i := 6) (N := some 64) (v := undef) (a' := ?_) #[tt, tt, tt, tt, tt, tt, tt, ff, ff, ff, ff, ff, ff, ff, ff, ff, ff, ff, ff, ff, ff, ff, ff] rfl rfl (any_of HT_.out (by kernel_rfl)) (fun _ _ _ h => h) (Or.inr ⟨by rfl, rfl⟩) ?_ ?_
        rotate_left
        ·exact aP
        refine pure_ (i := 7) (N := some 65) (v := undef) (a' := ?_) #[tt, tt, tt, tt, tt, tt, tt, tt, ff, ff, ff, ff, ff, ff, ff, ff, ff, ff, ff, ff, ff, ff, ff] rfl rfl (any_of HT_.out (by kernel_rfl)) (fun _ _ _ h => h) (Or.inr ⟨by rfl, rfl⟩) ?_ ?_
        rotate_left
        ·exact aP
        refine pure_ (i := 8) (N := some 66) (v := ?_) (a' := ?_) #[tt, tt, tt, tt, tt, tt, tt, tt, tt, ff, ff, ff, ff, ff, ff, ff, ff, ff, ff, ff, ff, ff, ff] rfl rfl (any_of HT_.out (by kernel_rfl)) (fun _ _ _ h => h) (Or.inl ⟨by rfl, ?_⟩) ?_ ?_
        rotate_left
        ·intro w'
         go_simp
         with_reducible rfl
        rotate_left
        ·exact aP
        refine pure_ (i := 9) (N := some 67) (v := ?_) (a' := ?_) #[tt, tt, tt, tt, tt, tt, tt, tt, tt, tt, ff, ff, ff, ff, ff, ff, ff, ff, ff, ff, ff, ff, ff] rfl rfl (any_of HT_.out (by kernel_rfl)) (fun _ _ _ h => h) (Or.inl ⟨by rfl, ?_⟩) ?_ ?_
        rotate_left
        ·intro w'
         go_simp
         with_reducible rfl
        rotate_left
        ·exact aP
        refine pure_ (i := 10) (N := some 68) (v := ?_) (a' := ?_) #[tt, tt, tt, tt, tt, tt, tt, tt, tt, tt, tt, ff, ff, ff, ff, ff, ff, ff, ff, ff, ff, ff, ff] rfl rfl (any_of HT_.out (by kernel_rfl)) (fun _ _ _ h => h) (Or.inl ⟨by rfl, ?_⟩) ?_ ?_
        rotate_left
        ·intro w'
         go_simp
         with_reducible rfl
        rotate_left
        ·exact aP
        refine pure_ (i := 14) (N := some 72) (v := ?_) (a' := ?_) #[tt, tt, tt, tt, tt, tt, tt, tt, tt, tt, tt, ff, ff, ff, tt, ff, ff, ff, ff, ff, ff, ff, ff] rfl rfl (any_of HT_.out (by kernel_rfl)) (fun _ _ _ h => h) (Or.inl ⟨by rfl, ?_⟩) ?_ ?_
        rotate_left
        ·intro w'
         go_simp
         with_reducible rfl
        rotate_left
        ·exact aP
        refine take_ (i := 11) (N := some 69) (v := ?_) (a' := ?_) #[tt, tt, tt, tt, tt, tt, tt, tt, tt, tt, tt, tt, ff, ff, tt, ff, ff, ff, ff, ff, ff, ff, ff] rfl rfl (take_ofW HT_.out HW_.out (by kernel_rfl)) (fun _ _ _ h => h) (Or.inl ⟨by rfl, ?_⟩) hHeld ?_ ?_
        rotate_left
        ·rintro w' ⟨s0, s1, s2, s3⟩
         go_simp
         with_reducible rfl
        rotate_left
        ·exact aP
        refine pure_ (i := 12) (N := some 70) (v := ?_) (a' := ?_) #[tt, tt, tt, tt, tt, tt, tt, tt, tt, tt, tt, tt, tt, ff, tt, ff, ff, ff, ff, ff, ff, ff, ff] rfl rfl (any_of HT_.out (by kernel_rfl)) (fun _ _ _ h => h) (Or.inl ⟨by rfl, ?_⟩) ?_ ?_
        rotate_left
        ·intro w'
         go_simp
         with_reducible rfl
        rotate_left
        ·exact aP
        refine pure_ (i := 13) (N := some 71) (v := ?_) (a' := ?_) #[tt, tt, tt, tt, tt, tt, tt, tt, tt, tt, tt, tt, tt, tt, tt, ff, ff, ff, ff, ff, ff, ff, ff] rfl rfl (any_of HT_.out (by kernel_rfl)) (fun _ _ _ h => h) (Or.inl ⟨by rfl, ?_⟩) ?_ ?_
        rotate_left
        ·intro w'
         go_simp
         with_reducible rfl
        rotate_left
        ·exact aP
        refine take_ (i := 15) (N := some 73) (v := ?_) (a' := ?_) #[tt, tt, tt, tt, tt, tt, tt, tt, tt, tt, tt, tt, tt, tt, tt, tt, ff, ff, ff, ff, ff, ff, ff] rfl rfl (take_ofW HT_.out HW_.out (by kernel_rfl)) (fun _ _ _ h => h) (Or.inl ⟨by rfl, ?_⟩) hHeld ?_ ?_
        rotate_left
        ·rintro w' ⟨s0, s1, s2, s3⟩
         go_simp
         with_reducible rfl
        rotate_left
        ·exact aP
        refine pure_ (i := 16) (N := some 74) (v := ?_) (a' := ?_) #[tt, tt, tt, tt, tt, tt, tt, tt, tt, tt, tt, tt, tt, tt, tt, tt, tt, ff, ff, ff, ff, ff, ff] rfl rfl (any_of HT_.out (by kernel_rfl)) (fun _ _ _ h => h) (Or.inl ⟨by rfl, ?_⟩) ?_ ?_
        rotate_left
        ·intro w'
         go_simp
         with_reducible rfl
        rotate_left
        ·exact aP
        refine pure_ (i := 17) (N := some 75) (v := ?_) (a' := ?_) #[tt, tt, tt, tt, tt, tt, tt, tt, tt, tt, tt, tt, tt, tt, tt, tt, tt, tt, ff, ff, ff, ff, ff] rfl rfl (any_of HT_.out (by kernel_rfl)) (fun _ _ _ h => h) (Or.inl ⟨by rfl, ?_⟩) ?_ ?_
        rotate_left
        ·intro w'
         go_simp
         with_reducible rfl
        rotate_left
        ·exact aP
        refine pure_ (i := 18) (N := some 76) (v := ?_) (a' := ?_) #[tt, tt, tt, tt, tt, tt, tt, tt, tt, tt, tt, tt, tt, tt, tt, tt, tt, tt, tt, ff, ff, ff, ff] rfl rfl (any_of HT_.out (by kernel_rfl)) (fun _ _ _ h => h) (Or.inl ⟨by rfl, ?_⟩) ?_ ?_
        rotate_left
        ·intro w'
         go_simp
         with_reducible rfl
        rotate_left
        ·exact aP
        refine pure_ (i := 19) (N := some 77) (v := ?_) (a' := ?_) #[tt, tt, tt, tt, tt, tt, tt, tt, tt, tt, tt, tt, tt, tt, tt, tt, tt, tt, tt, tt, ff, ff, ff] rfl rfl (any_of HT_.out (by kernel_rfl)) (fun _ _ _ h => h) (Or.inl ⟨by rfl, ?_⟩) ?_ ?_
        rotate_left
        ·intro w'
         go_simp
         with_reducible rfl
        rotate_left
        ·exact aP
        refine one_ (i := 20) (N := some 78) #[tt, tt, tt, tt, tt, tt, tt, tt, tt, tt, tt, tt, tt, tt, tt, tt, tt, tt, tt, tt, tt, ff, ff] rfl rfl (one_of HT_.out (by kernel_rfl)) (by decide) (fun K hK => ?_)
        refine goes_ Tryd.func19 (by kernel_rfl) rfl #[] (by rfl) rfl rfl aO ?_
        with_reducible refine (withylaw03_fixed.calls k3  t490 _ A35.out).mono ?_
        rintro e w38 ⟨rfl, hb⟩
        refine ⟨_, rfl, ?_⟩
        replace BK481 := bb BK481 hb
        replace HB := as_ (below_step bA hb)
        (try clear hb)
        (try clear hb2)
        (try clear hk)
        (try clear hi)
        refine hK.out _ _ ⟨(blk_cell BK481.out 0).trans rfl, (blk_cell BK481.out 1).trans rfl, (blk_cell BK481.out 2).trans rfl, (blk_cell BK481.out 3).trans rfl⟩ (fun hHeld => ?_)
        clear hK K
        refine norm_ (a' := ?_) ?_ ?_
        rotate_left
        ·show Act.put _ (some 78) _ = _
         simp only [Act.put, List.setIfInBounds_toArray, List.set_cons_zero, List.set_cons_succ, i64_w, i32_w]
         rfl
        refine pure_ (i := 21) (N := some 79) (v := ?_) (a' := ?_) #[tt, tt, tt, tt, tt, tt, tt, tt, tt, tt, tt, tt, tt, tt, tt, tt, tt, tt, tt, tt, tt, tt, ff] rfl rfl (any_of HT_.out (by kernel_rfl)) (fun _ _ _ h => h) (Or.inl ⟨by rfl, ?_⟩) ?_ ?_
        rotate_left
        ·intro w'
         go_simp
         with_reducible rfl
        rotate_left
        ·exact aP
        refine pure_ (i := 22) (N := some 2) (v := ?_) (a' := ?_) #[tt, tt, tt, tt, tt, tt, tt, tt, tt, tt, tt, tt, tt, tt, tt, tt, tt, tt, tt, tt, tt, tt, tt] rfl rfl (any_of HT_.out (by kernel_rfl)) (fun _ _ _ h => h) (Or.inl ⟨by rfl, ?_⟩) ?_ ?_
        rotate_left
        ·intro w'
         go_simp
         with_reducible rfl
        rotate_left
        ·exact aP
        refine done_ (done_of HT_.out (by kernel_rfl)) ?_
        try go_wp2
        go_ret
        exact ⟨eW, by repeat (first | (with_reducible first | exact HB.out | apply below_alloc | apply pw_below_drewN | apply below_drew1 | refine below_set ?_ GE481.out) | exact HB.out)⟩
       rw [if_neg c31] at H
       have c31b0 : (t482 == 3) = false := beq_eq_false_iff_ne.mpr c31
       have c31b1 : (t482 != 3) = true := bne_iff_ne.mpr c31
       by_cases c39 : (t486.size : Int) = x5_3
       rotate_left
       ·rw [if_neg c39] at H
        exact absurd H (by simp)
       rw [if_pos c39] at H
       have c39b0 : ((t486.size : Int) == x5_3) = true := beq_iff_eq.mpr c39
       have c39b1 : ((t486.size : Int) != x5_3) = false := bne_eq_false_iff_eq.mpr c39
       clear c39
       by_cases c40 : 0 < (t486.size : Int)
       rotate_left
       ·rw [if_neg c40] at H
        exact absurd H (by simp)
       rw [if_pos c40] at H
       have c40b0 : decide (0 < (t486.size : Int)) = true := decide_eq_true c40
       have c40b1 : decide (0 < t486.size) = true := decide_eq_true (by omega)
       clear c40
       by_cases c42 : (wrap64 (Int.tdiv (wrap64 (bt t486 0)) 16)) = (wrap64 (t482 + 1))
       rotate_left
       ·rw [if_neg c42] at H
        exact absurd H (by simp)
       rw [if_pos c42] at H
       have c42b0 : ((wrap64 (Int.tdiv (wrap64 (bt t486 0)) 16)) == (wrap64 (t482 + 1))) = true := beq_iff_eq.mpr c42
       have c42b1 : ((wrap64 (Int.tdiv (wrap64 (bt t486 0)) 16)) != (wrap64 (t482 + 1))) = false := bne_eq_false_iff_eq.mpr c42
       clear c42
       replace H := bM H
       obtain ⟨t491, A430, H⟩ := H
       replace H : (some t491) = some r := H
       have A43 := Aside0.mk A430
       clear A430
       obtain rfl := Option.some.inj H
       obtain ⟨hcz44_0, hcz44_1, hcz44_2, hcz44_3⟩ := zc4 BK481
       obtain ⟨hfz44_0, hfz44_1, hfz44_2, hfz44_3⟩ := zf4 BK481
       try go_wp2
       replace BK481 := as_ (blk_drew BK481.out)
       replace HB := as_ (below_drew1 HB.out)
       have p41 : 0 ≤ (0 : Int) := (by omega)
       have q41 : 0 < t486.size := (by have : (0 : Int) < (t486.size : Int) := of_decide_eq_true aM; omega)
       have hx41 : ∀ h : 0 < t486.size, ((t486[0]'h).toNat : Int) = bt t486 0 := bt_at t486 0
       clear p41
       have qi41 : (0 < (t486.size : Int)) = True := eq_true (of_decide_eq_true aM)
       replace q41 := eq_true q41
       refine start_ (n := 23) (S := fun w' => w'.cell? ⟨gb481, 0, none⟩ = some (.int .i64 t482) ∧ w'.cell? ⟨gb481, 1, none⟩ = some (.int .i64 t483) ∧ w'.cell? ⟨gb481, 2, none⟩ = some (.int .u64 t484) ∧ w'.cell? ⟨gb481, 3, none⟩ = some (.string t485)) (ds := []) #[ff, ff, ff, ff, ff, ff, ff, ff, ff, ff, ff, ff, ff, ff, ff, ff, ff, ff, ff, ff, ff, ff, ff] (by kernel_rfl) rfl rfl ⟨(blk_cell BK481.out 0).trans rfl, (blk_cell BK481.out 1).trans rfl, (blk_cell BK481.out 2).trans rfl, (blk_cell BK481.out 3).trans rfl⟩ (fun hHeld => ?_); refine with_tabW withylaw03_ColSizes.tab15 withylaw03_ColSizes.bits15 (fun HT_ HW_ => ?_)
       generalize wr.drew = w45 at BK481 HB hHeld ⊢
       refine pure_ (i := 0) (N := some 58) (v := ?_) (a' := ?_) #[tt, ff, ff, ff, ff, ff, ff, ff, ff, ff, ff, ff, ff, ff, ff, ff, ff, ff, ff, ff, ff, ff, ff] rfl rfl (any_of HT_.out (by kernel_rfl)) (fun _ _ _ h => h) (Or.inl ⟨by rfl, ?_⟩) ?_ ?_
       rotate_left
       ·intro w'
        go_simp
        with_reducible rfl
       rotate_left
       ·exact aP
       refine take_ (i := 1) (N := some 59) (v := ?_) (a' := ?_) #[tt, tt, ff, ff, ff, ff, ff, ff, ff, ff, ff, ff, ff, ff, ff, ff, ff, ff, ff, ff, ff, ff, ff] rfl rfl (take_ofW HT_.out HW_.out (by kernel_rfl)) (fun _ _ _ h => h) (Or.inl ⟨by rfl, ?_⟩) hHeld ?_ ?_
       rotate_left
       ·rintro w' ⟨s0, s1, s2, s3⟩
        go_simp
        with_reducible rfl
       rotate_left
       ·exact aP
       refine pure_ (i := 2) (N := some 60) (v := ?_) (a' := ?_) #[tt, tt, tt, ff, ff, ff, ff, ff, ff, ff, ff, ff, ff, ff, ff, ff, ff, ff, ff, ff, ff, ff, ff] rfl rfl (any_of HT_.out (by kernel_rfl)) (fun _ _ _ h => h) (Or.inl ⟨by rfl, ?_⟩) ?_ ?_
       rotate_left
       ·intro w'
        go_simp
        with_reducible rfl
       rotate_left
       ·exact aP
       refine pure_ (i := 3) (N := some 61) (v := ?_) (a' := ?_) #[tt, tt, tt, tt, ff, ff, ff, ff, ff, ff, ff, ff, ff, ff, ff, ff, ff, ff, ff, ff, ff, ff, ff] rfl rfl (any_of HT_.out (by kernel_rfl)) (fun _ _ _ h => h) (Or.inl ⟨by rfl, ?_⟩) ?_ ?_
       rotate_left
       ·intro w'
        go_simp
        with_reducible rfl
       rotate_left
       ·exact aP
       refine pure_ (i := 4) (N := some 62) (v := ?_) (a' := ?_) #[tt, tt, tt, tt, tt, ff, ff, ff, ff, ff, ff, ff, ff, ff, ff, ff, ff, ff, ff, ff, ff, ff, ff] rfl rfl (any_of HT_.out (by kernel_rfl)) (fun _ _ _ h => h) (Or.inl ⟨by rfl, ?_⟩) ?_ ?_
       rotate_left
       ·intro w'
        go_simp
        with_reducible rfl
       rotate_left
       ·exact aP
       refine pure_ (i := 5) (N := some 63) (v := ?_) (a' := ?_) #[tt, tt, tt, tt, tt, tt, ff, ff, ff, ff, ff, ff, ff, ff, ff, ff, ff, ff, ff, ff, ff, ff, ff] rfl rfl (any_of HT_.out (by kernel_rfl)) (fun _ _ _ h => h) (Or.inl ⟨by rfl, ?_⟩) ?_ ?_
       rotate_left
       ·intro w'
        go_simp
        with_reducible rfl
       rotate_left
       ·exact aP
       refine pure_ (i := 6) (N := some 64) (v := ?_) (a' := ?_) #[tt, tt, tt, tt, tt, tt, tt, ff, ff, ff, ff, ff, ff, ff, ff, ff, ff, ff, ff, ff, ff, ff, ff] rfl rfl (any_of HT_.out (by kernel_rfl)) (fun _ _ _ h => h) (Or.inl ⟨by rfl, ?_⟩) ?_ ?_
       rotate_left
       ·intro w'
        go_simp
        with_reducible rfl
       rotate_left
       ·exact aP
       refine pure_ (i := 7) (N := some 65) (v := ?_) (a' := ?_) #[tt, tt, tt, tt, tt, tt, tt, tt, ff, ff, ff, ff, ff, ff, ff, ff, ff, ff, ff, ff, ff, ff, ff] rfl rfl (any_of HT_.out (by kernel_rfl)) (fun _ _ _ h => h) (Or.inl ⟨by rfl, ?_⟩) ?_ ?_
       rotate_left
       ·intro w'
        go_simp
        with_reducible rfl
       rotate_left
       ·exact aP
       refine pure_ (i := 8) (N := some 66) (v := ?_) (a' := ?_) #[tt, tt, tt, tt, tt, tt, tt, tt, tt, ff, ff, ff, ff, ff, ff, ff, ff, ff, ff, ff, ff, ff, ff] rfl rfl (any_of HT_.out (by kernel_rfl)) (fun _ _ _ h => h) (Or.inl ⟨by rfl, ?_⟩) ?_ ?_
       rotate_left
       ·intro w'
        go_simp
        with_reducible rfl
       rotate_left
       ·exact aP
       refine pure_ (i := 9) (N := some 67) (v := ?_) (a' := ?_) #[tt, tt, tt, tt, tt, tt, tt, tt, tt, tt, ff, ff, ff, ff, ff, ff, ff, ff, ff, ff, ff, ff, ff] rfl rfl (any_of HT_.out (by kernel_rfl)) (fun _ _ _ h => h) (Or.inl ⟨by rfl, ?_⟩) ?_ ?_
       rotate_left
       ·intro w'
        go_simp
        with_reducible rfl
       rotate_left
       ·exact aP
       refine pure_ (i := 10) (N := some 68) (v := ?_) (a' := ?_) #[tt, tt, tt, tt, tt, tt, tt, tt, tt, tt, tt, ff, ff, ff, ff, ff, ff, ff, ff, ff, ff, ff, ff] rfl rfl (any_of HT_.out (by kernel_rfl)) (fun _ _ _ h => h) (Or.inl ⟨by rfl, ?_⟩) ?_ ?_
       rotate_left
       ·intro w'
        go_simp
        with_reducible rfl
       rotate_left
       ·exact aP
       refine pure_ (i := 14) (N := some 72) (v := ?_) (a' := ?_) #[tt, tt, tt, tt, tt, tt, tt, tt, tt, tt, tt, ff, ff, ff, tt, ff, ff, ff, ff, ff, ff, ff, ff] rfl rfl (any_of HT_.out (by kernel_rfl)) (fun _ _ _ h => h) (Or.inl ⟨by rfl, ?_⟩) ?_ ?_
       rotate_left
       ·intro w'
        go_simp
        with_reducible rfl
       rotate_left
       ·exact aP
       refine take_ (i := 11) (N := some 69) (v := ?_) (a' := ?_) #[tt, tt, tt, tt, tt, tt, tt, tt, tt, tt, tt, tt, ff, ff, tt, ff, ff, ff, ff, ff, ff, ff, ff] rfl rfl (take_ofW HT_.out HW_.out (by kernel_rfl)) (fun _ _ _ h => h) (Or.inl ⟨by rfl, ?_⟩) hHeld ?_ ?_
       rotate_left
       ·rintro w' ⟨s0, s1, s2, s3⟩
        go_simp
        with_reducible rfl
       rotate_left
       ·exact aP
       refine pure_ (i := 12) (N := some 70) (v := ?_) (a' := ?_) #[tt, tt, tt, tt, tt, tt, tt, tt, tt, tt, tt, tt, tt, ff, tt, ff, ff, ff, ff, ff, ff, ff, ff] rfl rfl (any_of HT_.out (by kernel_rfl)) (fun _ _ _ h => h) (Or.inl ⟨by rfl, ?_⟩) ?_ ?_
       rotate_left
       ·intro w'
        go_simp
        with_reducible rfl
       rotate_left
       ·exact aP
       refine pure_ (i := 13) (N := some 71) (v := ?_) (a' := ?_) #[tt, tt, tt, tt, tt, tt, tt, tt, tt, tt, tt, tt, tt, tt, tt, ff, ff, ff, ff, ff, ff, ff, ff] rfl rfl (any_of HT_.out (by kernel_rfl)) (fun _ _ _ h => h) (Or.inl ⟨by rfl, ?_⟩) ?_ ?_
       rotate_left
       ·intro w'
        go_simp
        with_reducible rfl
       rotate_left
       ·exact aP
       refine take_ (i := 15) (N := some 73) (v := ?_) (a' := ?_) #[tt, tt, tt, tt, tt, tt, tt, tt, tt, tt, tt, tt, tt, tt, tt, tt, ff, ff, ff, ff, ff, ff, ff] rfl rfl (take_ofW HT_.out HW_.out (by kernel_rfl)) (fun _ _ _ h => h) (Or.inl ⟨by rfl, ?_⟩) hHeld ?_ ?_
       rotate_left
       ·rintro w' ⟨s0, s1, s2, s3⟩
        go_simp
        with_reducible rfl
       rotate_left
       ·exact aP
       refine pure_ (i := 16) (N := some 74) (v := ?_) (a' := ?_) #[tt, tt, tt, tt, tt, tt, tt, tt, tt, tt, tt, tt, tt, tt, tt, tt, tt, ff, ff, ff, ff, ff, ff] rfl rfl (any_of HT_.out (by kernel_rfl)) (fun _ _ _ h => h) (Or.inl ⟨by rfl, ?_⟩) ?_ ?_
       rotate_left
       ·intro w'
        go_simp
        with_reducible rfl
       rotate_left
       ·exact aP
       refine pure_ (i := 17) (N := some 75) (v := ?_) (a' := ?_) #[tt, tt, tt, tt, tt, tt, tt, tt, tt, tt, tt, tt, tt, tt, tt, tt, tt, tt, ff, ff, ff, ff, ff] rfl rfl (any_of HT_.out (by kernel_rfl)) (fun _ _ _ h => h) (Or.inl ⟨by rfl, ?_⟩) ?_ ?_
       rotate_left
       ·intro w'
        go_simp
        with_reducible rfl
       rotate_left
       ·exact aP
       refine pure_ (i := 18) (N := some 76) (v := ?_) (a' := ?_) #[tt, tt, tt, tt, tt, tt, tt, tt, tt, tt, tt, tt, tt, tt, tt, tt, tt, tt, tt, ff, ff, ff, ff] rfl rfl (any_of HT_.out (by kernel_rfl)) (fun _ _ _ h => h) (Or.inl ⟨by rfl, ?_⟩) ?_ ?_
       rotate_left
       ·intro w'
        go_simp
        with_reducible rfl
       rotate_left
       ·exact aP
       refine pure_ (i := 19) (N := some 77) (v := ?_) (a' := ?_) #[tt, tt, tt, tt, tt, tt, tt, tt, tt, tt, tt, tt, tt, tt, tt, tt, tt, tt, tt, tt, ff, ff, ff] rfl rfl (any_of HT_.out (by kernel_rfl)) (fun _ _ _ h => h) (Or.inl ⟨by rfl, ?_⟩) ?_ ?_
       rotate_left
       ·intro w'
        go_simp
        with_reducible rfl
       rotate_left
       ·exact aP
       refine one_ (i := 20) (N := some 78) #[tt, tt, tt, tt, tt, tt, tt, tt, tt, tt, tt, tt, tt, tt, tt, tt, tt, tt, tt, tt, tt, ff, ff] rfl rfl (one_of HT_.out (by kernel_rfl)) (by decide) (fun K hK => ?_)
       refine goes_ Tryd.func19 (by kernel_rfl) rfl #[] (by rfl) rfl rfl aO ?_
       with_reducible refine (withylaw03_fixed.calls k3  t491 _ A43.out).mono ?_
       rintro e w46 ⟨rfl, hb⟩
       refine ⟨_, rfl, ?_⟩
       replace BK481 := bb BK481 hb
       replace HB := as_ (below_step bA hb)
       (try clear hb)
       (try clear hb2)
       (try clear hk)
       (try clear hi)
       refine hK.out _ _ ⟨(blk_cell BK481.out 0).trans rfl, (blk_cell BK481.out 1).trans rfl, (blk_cell BK481.out 2).trans rfl, (blk_cell BK481.out 3).trans rfl⟩ (fun hHeld => ?_)
       clear hK K
       refine norm_ (a' := ?_) ?_ ?_
       rotate_left
       ·show Act.put _ (some 78) _ = _
        simp only [Act.put, List.setIfInBounds_toArray, List.set_cons_zero, List.set_cons_succ, i64_w, i32_w]
        rfl
       refine pure_ (i := 21) (N := some 79) (v := ?_) (a' := ?_) #[tt, tt, tt, tt, tt, tt, tt, tt, tt, tt, tt, tt, tt, tt, tt, tt, tt, tt, tt, tt, tt, tt, ff] rfl rfl (any_of HT_.out (by kernel_rfl)) (fun _ _ _ h => h) (Or.inl ⟨by rfl, ?_⟩) ?_ ?_
       rotate_left
       ·intro w'
        go_simp
        with_reducible rfl
       rotate_left
       ·exact aP
       refine pure_ (i := 22) (N := some 2) (v := ?_) (a' := ?_) #[tt, tt, tt, tt, tt, tt, tt, tt, tt, tt, tt, tt, tt, tt, tt, tt, tt, tt, tt, tt, tt, tt, tt] rfl rfl (any_of HT_.out (by kernel_rfl)) (fun _ _ _ h => h) (Or.inl ⟨by rfl, ?_⟩) ?_ ?_
       rotate_left
       ·intro w'
        go_simp
        with_reducible rfl
       rotate_left
       ·exact aP
       refine done_ (done_of HT_.out (by kernel_rfl)) ?_
       try go_wp2
       go_ret
       exact ⟨eW, by repeat (first | (with_reducible first | exact HB.out | apply below_alloc | apply pw_below_drewN | apply below_drew1 | refine below_set ?_ GE481.out) | exact HB.out)⟩
end Go.Proofs.YtjfgeppfkhaliaaDoor.P
