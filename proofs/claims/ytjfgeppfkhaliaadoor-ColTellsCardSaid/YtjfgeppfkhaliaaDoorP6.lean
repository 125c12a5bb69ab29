/- What is proved here: for functions of the Go text, a Lean function each, and that the call comes to just what it answers. Conditions: as each contract names them. Written by wip/tools/myprint.py, a driver of the print of the kit. -/
import Derived.Test.YtjfgeppfkhaliaaDoorP0
import Derived.Test.YtjfgeppfkhaliaaDoorP1
import Derived.Test.YtjfgeppfkhaliaaDoorP3
import Derived.Test.YtjfgeppfkhaliaaDoorP5
import Derived.Test.YtjfgeppfkhaliaaDoorWAbbr
namespace Go.Proofs.YtjfgeppfkhaliaaDoor.P
open Go.RowKit Go.Proofs.YtjfgeppfkhaliaaDoorW.PrintWords Go.Proofs.YtjfgeppfkhaliaaDoorW.PrintLast Go.Proofs.YtjfgeppfkhaliaaDoorW.PrintMore Go.Proofs.YtjfgeppfkhaliaaDoorW.Abbr
-- PACKED
attribute [local go_sem] max2_int min2_int max_two min_two max_three min_three max_four min_four Go.Proofs.YtjfgeppfkhaliaaDoorLaws.str_leq Go.Proofs.YtjfgeppfkhaliaaDoorLaws.str_gtr Go.Proofs.YtjfgeppfkhaliaaDoorLaws.str_geq Go.Proofs.YtjfgeppfkhaliaaDoorLaws.max2_str Go.Proofs.YtjfgeppfkhaliaaDoorLaws.min2_str   -- for this text's walks alone
set_option linter.unusedVariables false
set_option linter.unusedSimpArgs false

attribute [local go_sem high] eqA24
/-! ### withyref03_Get: function 14 -/
mutual
def withyref03_Get.j0 : Nat → ByteArray → Int → Bool → Option (Int × Int × Int × ByteArray × Int × Int)
 | 0, _, _, _ => none
 | k + 1, x0, x1, x22 => if x22 = true then (some (0, 0, 0, (⟨#[]⟩ : ByteArray), 0, 4)) else (if x1 = (x0.size : Int) then (some (0, 0, 0, (⟨#[]⟩ : ByteArray), 0, 7)) else (if 0 ≤ x1 then (if x1 < (x0.size : Int) then (if (bt x0 x1) = 16 then (some (0, 0, 0, (⟨#[]⟩ : ByteArray), wrap64 (x1 + 1), 0)) else (if (bt x0 x1) = 32 then (withyref03_Get.j1 k x0 x1 (bt x0 x1) ((bt x0 x1) == 32)) else (withyref03_Get.j1 k x0 x1 (bt x0 x1) ((bt x0 x1) == 33)))) else (none)) else (none)))
def withyref03_Get.j1 : Nat → ByteArray → Int → Int → Bool → Option (Int × Int × Int × ByteArray × Int × Int)
 | 0, _, _, _, _ => none
 | k + 1, x0, x1, x31, x37 => if x37 = true then (if 0 ≤ x1 then (if x1 < (x0.size : Int) then (some (1, 0, IntKind.u64.wrap ((IntKind.u64.wrap (bt x0 x1)) - 32), (⟨#[]⟩ : ByteArray), wrap64 (x1 + 1), 0)) else (none)) else (none)) else (if x31 = 48 then (if (wrap64 (x1 + 9)) > (x0.size : Int) then (some (0, 0, 0, (⟨#[]⟩ : ByteArray), 0, 7)) else (withyref03_Get.l0 k x0 x1 0 1)) else (if x31 = 64 then ((withyref01_Get.f k x0 (wrap64 (x1 + 1))).bind fun bt215 => (if bt215.2.2 = 0 then (some (3, 0, bt215.1, (⟨#[]⟩ : ByteArray), bt215.2.1, 0)) else (some (0, 0, 0, (⟨#[]⟩ : ByteArray), 0, bt215.2.2)))) else (if x31 = 80 then ((withyref03_text.f k x0 (wrap64 (x1 + 1))).bind fun bt218 => (if bt218.2.2 = 0 then (some (4, 0, 0, bt218.1, bt218.2.1, 0)) else (some (0, 0, 0, (⟨#[]⟩ : ByteArray), 0, bt218.2.2)))) else (some (0, 0, 0, (⟨#[]⟩ : ByteArray), 0, 3)))))
def withyref03_Get.l0 : Nat → ByteArray → Int → Int → Int → Option (Int × Int × Int × ByteArray × Int × Int)
 | 0, _, _, _, _ => none
 | k + 1, x0, x1, x7, x8 => if x8 < 9 then (if 0 ≤ (wrap64 (x1 + x8)) then (if (wrap64 (x1 + x8)) < (x0.size : Int) then (withyref03_Get.l0 k x0 x1 (IntKind.u64.wrap ((IntKind.u64.wrap (x7 * 256)) + (IntKind.u64.wrap (bt x0 (wrap64 (x1 + x8)))))) (wrap64 (x8 + 1))) else (none)) else (none)) else (some (2, wrap64 (IntKind.u64.wrap (x7 - 9223372036854775808)), 0, (⟨#[]⟩ : ByteArray), wrap64 (x1 + 9), 0))
end
def withyref03_Get.f (k : Nat) (a0 : ByteArray) (a1 : Int) : Option (Int × Int × Int × ByteArray × Int × Int) := if a1 < 0 then (withyref03_Get.j0 k a0 a1 true) else (withyref03_Get.j0 k a0 a1 (decide (a1 > (a0.size : Int))))
theorem withyref03_Get.mono_l : ∀ k, (∀ y0 y1 y2, LeO (withyref03_Get.j0 k y0 y1 y2) (withyref03_Get.j0 (k + 1) y0 y1 y2)) ∧ (∀ y0 y1 y2 y3, LeO (withyref03_Get.j1 k y0 y1 y2 y3) (withyref03_Get.j1 (k + 1) y0 y1 y2 y3)) ∧ (∀ y0 y1 y2 y3, LeO (withyref03_Get.l0 k y0 y1 y2 y3) (withyref03_Get.l0 (k + 1) y0 y1 y2 y3))
 | 0 => ⟨fun _ _ _ r h => by simp [withyref03_Get.j0] at h, fun _ _ _ _ r h => by simp [withyref03_Get.j1] at h, fun _ _ _ _ r h => by simp [withyref03_Get.l0] at h⟩
 | k + 1 => by
  obtain ⟨ih0, ih1, ih2⟩ := withyref03_Get.mono_l k
  refine ⟨?_, ?_, ?_⟩
  ·intro y0 y1 y2
   unfold withyref03_Get.j0
   repeat' first
   | (with_reducible exact ih0 _ _ _)
   | (with_reducible exact ih1 _ _ _ _)
   | (with_reducible exact ih2 _ _ _ _)
   | (with_reducible exact withyref01_Get.mono _ _ _)
   | (with_reducible exact withyref03_text.mono _ _ _)
   | (with_reducible exact LeO.refl _)
   | (with_reducible exact LeO.none _)
   | (with_reducible refine LeO.ite ?_ ?_)
   | (with_reducible refine LeO.bind ?_ (fun _ => ?_))
   | exact ih0 _ _ _
   | exact ih1 _ _ _ _
   | exact ih2 _ _ _ _
   | exact withyref01_Get.mono _ _ _
   | exact withyref03_text.mono _ _ _
   | exact LeO.none _
   | refine LeO.ite ?_ ?_
   | refine LeO.bind ?_ (fun _ => ?_)
  ·intro y0 y1 y2 y3
   unfold withyref03_Get.j1
   repeat' first
   | (with_reducible exact ih0 _ _ _)
   | (with_reducible exact ih1 _ _ _ _)
   | (with_reducible exact ih2 _ _ _ _)
   | (with_reducible exact withyref01_Get.mono _ _ _)
   | (with_reducible exact withyref03_text.mono _ _ _)
   | (with_reducible exact LeO.refl _)
   | (with_reducible exact LeO.none _)
   | (with_reducible refine LeO.ite ?_ ?_)
   | (with_reducible refine LeO.bind ?_ (fun _ => ?_))
   | exact ih0 _ _ _
   | exact ih1 _ _ _ _
   | exact ih2 _ _ _ _
   | exact withyref01_Get.mono _ _ _
   | exact withyref03_text.mono _ _ _
   | exact LeO.none _
   | refine LeO.ite ?_ ?_
   | refine LeO.bind ?_ (fun _ => ?_)
  ·intro y0 y1 y2 y3
   unfold withyref03_Get.l0
   repeat' first
   | (with_reducible exact ih0 _ _ _)
   | (with_reducible exact ih1 _ _ _ _)
   | (with_reducible exact ih2 _ _ _ _)
   | (with_reducible exact withyref01_Get.mono _ _ _)
   | (with_reducible exact withyref03_text.mono _ _ _)
   | (with_reducible exact LeO.refl _)
   | (with_reducible exact LeO.none _)
   | (with_reducible refine LeO.ite ?_ ?_)
   | (with_reducible refine LeO.bind ?_ (fun _ => ?_))
   | exact ih0 _ _ _
   | exact ih1 _ _ _ _
   | exact ih2 _ _ _ _
   | exact withyref01_Get.mono _ _ _
   | exact withyref03_text.mono _ _ _
   | exact LeO.none _
   | refine LeO.ite ?_ ?_
   | refine LeO.bind ?_ (fun _ => ?_)
theorem withyref03_Get.mono : ∀ a0 a1 k, LeO (withyref03_Get.f k a0 a1) (withyref03_Get.f (k + 1) a0 a1) := by
 intro a0 a1 k
 obtain ⟨ih0, ih1, ih2⟩ := withyref03_Get.mono_l k
 unfold withyref03_Get.f
 repeat' first
   | (with_reducible exact ih0 _ _ _)
   | (with_reducible exact ih1 _ _ _ _)
   | (with_reducible exact ih2 _ _ _ _)
   | (with_reducible exact withyref01_Get.mono _ _ _)
   | (with_reducible exact withyref03_text.mono _ _ _)
   | (with_reducible exact LeO.refl _)
   | (with_reducible exact LeO.none _)
   | (with_reducible refine LeO.ite ?_ ?_)
   | (with_reducible refine LeO.bind ?_ (fun _ => ?_))
   | exact ih0 _ _ _
   | exact ih1 _ _ _ _
   | exact ih2 _ _ _ _
   | exact withyref01_Get.mono _ _ _
   | exact withyref03_text.mono _ _ _
   | exact LeO.none _
   | refine LeO.ite ?_ ?_
   | refine LeO.bind ?_ (fun _ => ?_)
set_option maxHeartbeats 8000000 in
set_option maxRecDepth 100000 in
theorem withyref03_Get.calls (k : Nat) (a0 : ByteArray) (a1 : Int) (r1 : Int) (r2 : Int) (r3 : Int) (r4 : ByteArray) (r5 : Int) (r6 : Int) (w : World) (h : withyref03_Get.f k a0 a1 = some (r1, r2, r3, r4, r5, r6)) :
  Calls Tryd.prog 14 #[.string a0, .int .i64 a1] w fun e w' => e = .returned (.tuple #[.agg #[.int .i64 r1, .int .i64 r2, .int .u64 r3, .string r4], .int .i64 r5, .int .i64 r6]) ∧ Below w.heap.size w w' := by
 have hu32 := Tryd.underlying32
 have HB := as_ (Below.refl w.heap.size w)
 have H : (if a1 < 0 then (withyref03_Get.j0 k a0 a1 true) else (withyref03_Get.j0 k a0 a1 (decide (a1 > (a0.size : Int))))) = some (r1, r2, r3, r4, r5, r6) := h
 clear h
 have HC3 := Aside0.mk H
 clear H
 go_enter Tryd.func14, Tryd.ntmps14
 go_upto_region 1 with (first | ((with_reducible refine gate_dst (N := 4) rfl ?_); (try (refine gate_guard (by rfl) ?_; dsimp only)); refine box_event ?hg (N := 4) ?hd (cs := #[.int .i64 0, .int .i64 0, .int .u64 0, .string (⟨#[]⟩ : ByteArray)]) (t := 32) ?hr ?_; (case hd => rfl); (case hg => rfl); (case hr => first | (go_simp; done) | (go_simp; rfl)); intro gb214 hg w4 hbox hb; have BK214 := as_ (hbox); have GW214 := gw hg bA; have GE214 := gw hg bA; replace HB := as_ (below_step bA hb); clear hb hbox hg))
 (try simp only [Act.put, List.setIfInBounds_toArray, List.set_cons_zero, List.set_cons_succ])
 go_cut [22] (fun v22 wc => ∃ (kq : Nat) (x22_2 : Bool), v22 = .bool x22_2 ∧ Aside0 (withyref03_Get.j0 kq a0 a1 x22_2 = some (r1, r2, r3, r4, r5, r6)) ∧ Aside0 (kq ≤ k) ∧ Aside0 (wc.heap[gb214]? = some (.cells #[.int .i64 0, .int .i64 0, .int .u64 0, .string (⟨#[]⟩ : ByteArray)] 32 (0, 0))) ∧ Aside0 (Below w.heap.size w wc))
 case first =>
  have H := HC3.out
  clear HC3
  by_cases c5 : a1 < 0
  rotate_left
  ·rw [if_neg c5] at H
   have c5b0 : decide (a1 < 0) = false := decide_eq_false c5
   clear c5
   (first | rw [c5b0] | (simp only [i64_w, i32_w]; rw [c5b0]) | rw [c5b1] | skip)
   have H' := Aside0.mk H
   clear H
   go_wp2
   go_meet
   case rel => exact ⟨_, (decide (a1 > (a0.size : Int))), (by first | rfl | (simp; done) | (simp [*]; done)), H', ⟨by first | omega | exact Nat.le_refl _⟩, ⟨by refine bx ?_; exact BK214.out⟩, ⟨by repeat (first | (with_reducible first | exact HB.out | apply below_alloc | apply pw_below_drewN | apply below_drew1 | refine below_set ?_ GE214.out) | exact HB.out)⟩⟩
  rw [if_pos c5] at H
  have c5b0 : decide (a1 < 0) = true := decide_eq_true c5
  clear c5
  (first | rw [c5b0] | (simp only [i64_w, i32_w]; rw [c5b0]) | rw [c5b1] | skip)
  have H' := Aside0.mk H
  clear H
  go_wp2
  go_meet
  case rel => exact ⟨_, (true), (by first | rfl | (simp; done) | (simp [*]; done)), H', ⟨by first | omega | exact Nat.le_refl _⟩, ⟨by refine bx ?_; exact BK214.out⟩, ⟨by repeat (first | (with_reducible first | exact HB.out | apply below_alloc | apply pw_below_drewN | apply below_drew1 | refine below_set ?_ GE214.out) | exact HB.out)⟩⟩
 case rest =>
  clear HC3
  try clear c1
  try clear p2
  try clear c5
  try clear c5b0
  try clear c5b1
  obtain ⟨kq, x22_2, rfl, HA, HJ2, BK214, HB⟩ := hcut
  cases kq with
  | zero => exact absurd HA.out (by simp [withyref03_Get.j0])
  | succ kj2 =>
   have H := HA.out
   clear HA
   simp only [withyref03_Get.j0] at H
   by_cases c6 : x22_2 = true
   ·subst c6
    have H1 : (some (0, 0, 0, (⟨#[]⟩ : ByteArray), 0, 4)) = some (r1, r2, r3, r4, r5, r6) := by rw [if_pos rfl] at H; exact H
    clear H
    have H := H1
    clear H1
    simp only [Option.some.injEq, Prod.mk.injEq] at H
    obtain ⟨rfl, rfl, rfl, rfl, rfl, rfl⟩ := H
    obtain ⟨hcz7_0, hcz7_1, hcz7_2, hcz7_3⟩ := zc4 BK214
    obtain ⟨hfz7_0, hfz7_1, hfz7_2, hfz7_3⟩ := zf4 BK214
    go_wp2
    refine bodyPost_ret (results_ctt rfl _ _ gb214 32 #[.int .i64 0, .int .i64 0, .int .u64 0, .string (⟨#[]⟩ : ByteArray)] (0, 0) _ rfl (by refine bx ?_; refine blk_put (cs := #[.int .i64 0, .int .i64 0, .int .u64 0, .string (⟨#[]⟩ : ByteArray)]) ?_ 3 _ rfl; refine bx ?_; refine blk_put (cs := #[.int .i64 0, .int .i64 0, .int .u64 0, .string (⟨#[]⟩ : ByteArray)]) ?_ 2 _ rfl; refine bx ?_; refine blk_put (cs := #[.int .i64 0, .int .i64 0, .int .u64 0, .string (⟨#[]⟩ : ByteArray)]) ?_ 1 _ rfl; refine bx ?_; refine blk_put (cs := #[.int .i64 0, .int .i64 0, .int .u64 0, .string (⟨#[]⟩ : ByteArray)]) ?_ 0 _ rfl; refine bx ?_; exact BK214.out) Tryd.underlying32 rfl (by kernel_rfl)) rfl ?_
    exact ⟨eW, by repeat (first | (with_reducible first | exact HB.out | apply below_alloc | apply pw_below_drewN | apply below_drew1 | refine below_set ?_ GE214.out) | exact HB.out)⟩
   replace c6 := Bool.eq_false_iff.mpr c6
   subst c6
   have H1 : (if a1 = (a0.size : Int) then (some (0, 0, 0, (⟨#[]⟩ : ByteArray), 0, 7)) else (if 0 ≤ a1 then (if a1 < (a0.size : Int) then (if (bt a0 a1) = 16 then (some (0, 0, 0, (⟨#[]⟩ : ByteArray), wrap64 (a1 + 1), 0)) else (if (bt a0 a1) = 32 then (withyref03_Get.j1 kj2 a0 a1 (bt a0 a1) ((bt a0 a1) == 32)) else (withyref03_Get.j1 kj2 a0 a1 (bt a0 a1) ((bt a0 a1) == 33)))) else (none)) else (none))) = some (r1, r2, r3, r4, r5, r6) := by rw [if_neg (show ¬ (false = true) by decide)] at H; exact H
   clear H
   have H := H1
   clear H1
   by_cases c8 : a1 = (a0.size : Int)
   ·rw [if_pos c8] at H
    have c8b0 : (a1 == (a0.size : Int)) = true := beq_iff_eq.mpr c8
    have c8b1 : (a1 != (a0.size : Int)) = false := bne_eq_false_iff_eq.mpr c8
    clear c8
    simp only [Option.some.injEq, Prod.mk.injEq] at H
    obtain ⟨rfl, rfl, rfl, rfl, rfl, rfl⟩ := H
    obtain ⟨hcz9_0, hcz9_1, hcz9_2, hcz9_3⟩ := zc4 BK214
    obtain ⟨hfz9_0, hfz9_1, hfz9_2, hfz9_3⟩ := zf4 BK214
    go_wp2
    refine bodyPost_ret (results_ctt rfl _ _ gb214 32 #[.int .i64 0, .int .i64 0, .int .u64 0, .string (⟨#[]⟩ : ByteArray)] (0, 0) _ rfl (by refine bx ?_; refine blk_put (cs := #[.int .i64 0, .int .i64 0, .int .u64 0, .string (⟨#[]⟩ : ByteArray)]) ?_ 3 _ rfl; refine bx ?_; refine blk_put (cs := #[.int .i64 0, .int .i64 0, .int .u64 0, .string (⟨#[]⟩ : ByteArray)]) ?_ 2 _ rfl; refine bx ?_; refine blk_put (cs := #[.int .i64 0, .int .i64 0, .int .u64 0, .string (⟨#[]⟩ : ByteArray)]) ?_ 1 _ rfl; refine bx ?_; refine blk_put (cs := #[.int .i64 0, .int .i64 0, .int .u64 0, .string (⟨#[]⟩ : ByteArray)]) ?_ 0 _ rfl; refine bx ?_; exact BK214.out) Tryd.underlying32 rfl (by kernel_rfl)) rfl ?_
    exact ⟨eW, by repeat (first | (with_reducible first | exact HB.out | apply below_alloc | apply pw_below_drewN | apply below_drew1 | refine below_set ?_ GE214.out) | exact HB.out)⟩
   rw [if_neg c8] at H
   have c8b0 : (a1 == (a0.size : Int)) = false := beq_eq_false_iff_ne.mpr c8
   have c8b1 : (a1 != (a0.size : Int)) = true := bne_iff_ne.mpr c8
   by_cases c10 : 0 ≤ a1
   rotate_left
   ·rw [if_neg c10] at H
    exact absurd H (by simp)
 
   rw [if_pos c10] at H
   have c10b0 : decide (0 ≤ a1) = true := decide_eq_true c10
   clear c10
   by_cases c11 : a1 < (a0.size : Int)
   rotate_left
   ·rw [if_neg c11] at H
    exact absurd H (by simp)
   rw [if_pos c11] at H
   have c11b0 : decide (a1 < (a0.size : Int)) = true := decide_eq_true c11
   clear c11
   by_cases c13 : (bt a0 a1) = 16
   ·rw [if_pos c13] at H
    have c13b0 : ((bt a0 a1) == 16) = true := beq_iff_eq.mpr c13
    have c13b1 : ((bt a0 a1) != 16) = false := bne_eq_false_iff_eq.mpr c13
    clear c13
    simp only [Option.some.injEq, Prod.mk.injEq] at H
    obtain ⟨rfl, rfl, rfl, rfl, rfl, rfl⟩ := H
    have p12 : 0 ≤ (a1 : Int) := of_decide_eq_true aM
    have q12 : a1 < (a0.size : Int) := of_decide_eq_true aM
    have hx12 := bt_at a0 a1
    replace p12 := eq_true p12
    replace q12 := eq_true q12
    obtain ⟨hcz14_0, hcz14_1, hcz14_2, hcz14_3⟩ := zc4 BK214
    obtain ⟨hfz14_0, hfz14_1, hfz14_2, hfz14_3⟩ := zf4 BK214
    go_wp2
    refine bodyPost_ret (results_ctt rfl _ _ gb214 32 #[.int .i64 0, .int .i64 0, .int .u64 0, .string (⟨#[]⟩ : ByteArray)] (0, 0) _ rfl (by refine bx ?_; refine blk_put (cs := #[.int .i64 0, .int .i64 0, .int .u64 0, .string (⟨#[]⟩ : ByteArray)]) ?_ 3 _ rfl; refine bx ?_; refine blk_put (cs := #[.int .i64 0, .int .i64 0, .int .u64 0, .string (⟨#[]⟩ : ByteArray)]) ?_ 2 _ rfl; refine bx ?_; refine blk_put (cs := #[.int .i64 0, .int .i64 0, .int .u64 0, .string (⟨#[]⟩ : ByteArray)]) ?_ 1 _ rfl; refine bx ?_; refine blk_put (cs := #[.int .i64 0, .int .i64 0, .int .u64 0, .string (⟨#[]⟩ : ByteArray)]) ?_ 0 _ rfl; refine bx ?_; exact BK214.out) Tryd.underlying32 rfl (by kernel_rfl)) rfl ?_
    exact ⟨eW, by repeat (first | (with_reducible first | exact HB.out | apply below_alloc | apply pw_below_drewN | apply below_drew1 | refine below_set ?_ GE214.out) | exact HB.out)⟩
   rw [if_neg c13] at H
   have c13b0 : ((bt a0 a1) == 16) = false := beq_eq_false_iff_ne.mpr c13
   have c13b1 : ((bt a0 a1) != 16) = true := bne_iff_ne.mpr c13
   have HC15 := Aside0.mk H
   clear H
   have p12 : 0 ≤ (a1 : Int) := of_decide_eq_true aM
   have q12 : a1 < (a0.size : Int) := of_decide_eq_true aM
   have hx12 := bt_at a0 a1
   replace p12 := eq_true p12
   replace q12 := eq_true q12
   go_upto_if 37 with (fail)
   go_cut [37] (fun v37 wc => ∃ (kq : Nat) (x37_14 : Bool), v37 = .bool x37_14 ∧ Aside0 (withyref03_Get.j1 kq a0 a1 (bt a0 a1) x37_14 = some (r1, r2, r3, r4, r5, r6)) ∧ Aside0 (kq ≤ kj2) ∧ Aside0 (wc.heap[gb214]? = some (.cells #[.int .i64 0, .int .i64 0, .int .u64 0, .string (⟨#[]⟩ : ByteArray)] 32 (0, 0))) ∧ Aside0 (Below w.heap.size w wc))
   case first =>
    have H := HC15.out
    clear HC15
    by_cases c16 : (bt a0 a1) = 32
    rotate_left
    ·rw [if_neg c16] at H
     have c16b0 : ((bt a0 a1) == 32) = false := beq_eq_false_iff_ne.mpr c16
     have c16b1 : ((bt a0 a1) != 32) = true := bne_iff_ne.mpr c16
     (first | rw [c16b0] | (simp only [i64_w, i32_w]; rw [c16b0]) | rw [c16b1] | skip)
     have H' := Aside0.mk H
     clear H
     go_wp2
     go_meet
     case rel => exact ⟨_, (((bt a0 a1) == 33)), (by first | rfl | (simp; done) | (simp [*]; done)), H', ⟨by have := HJ2.out; first | omega | exact Nat.le_refl _⟩, ⟨by refine bx ?_; exact BK214.out⟩, ⟨by repeat (first | (with_reducible first | exact HB.out | apply below_alloc | apply pw_below_drewN | apply below_drew1 | refine below_set ?_ GE214.out) | exact HB.out)⟩⟩
    rw [if_pos c16] at H
    have c16b0 : ((bt a0 a1) == 32) = true := beq_iff_eq.mpr c16
    have c16b1 : ((bt a0 a1) != 32) = false := bne_eq_false_iff_eq.mpr c16
    clear c16
    (first | rw [c16b0] | (simp only [i64_w, i32_w]; rw [c16b0]) | rw [c16b1] | skip)
    have H' := Aside0.mk H
    clear H
    go_wp2
    go_meet
    case rel => exact ⟨_, (((bt a0 a1) == 32)), (by first | rfl | (simp; done) | (simp [*]; done)), H', ⟨by have := HJ2.out; first | omega | exact Nat.le_refl _⟩, ⟨by refine bx ?_; exact BK214.out⟩, ⟨by repeat (first | (with_reducible first | exact HB.out | apply below_alloc | apply pw_below_drewN | apply below_drew1 | refine below_set ?_ GE214.out) | exact HB.out)⟩⟩
   case rest =>
    clear HC15
    try clear c1
    try clear p1
    try clear q1
    try clear hx1
    try clear p2
    try clear c5
    try clear c5b0
    try clear c5b1
    try clear c6
    try clear p6
    try clear c8
    try clear c8b0
    try clear c8b1
    try clear c10
    try clear c10b0
    try clear c11
    try clear c11b0
    try clear p12
    try clear q12
    try clear hx12
    try clear c13
    try clear c13b0
    try clear c13b1
    try clear c14
    try clear c16
    try clear c16b0
    try clear c16b1
    try clear hcz14_0
    try clear hcz14_1
    try clear hcz14_2
    try clear hcz14_3
    try clear hcz7_0
    try clear hcz7_1
    try clear hcz7_2
    try clear hcz7_3
    try clear hcz9_0
    try clear hcz9_1
    try clear hcz9_2
    try clear hcz9_3
    try clear hfz14_0
    try clear hfz14_1
    try clear hfz14_2
    try clear hfz14_3
    try clear hfz7_0
    try clear hfz7_1
    try clear hfz7_2
    try clear hfz7_3
    try clear hfz9_0
    try clear hfz9_1
    try clear hfz9_2
    try clear hfz9_3
    try clear p12
    try clear p2
    try clear q12
    obtain ⟨kq, x37_14, rfl, HA, HJ14, BK214, HB⟩ := hcut
    cases kq with
    | zero => exact absurd HA.out (by simp [withyref03_Get.j1])
    | succ kj14 =>
     have H := HA.out
     clear HA
     simp only [withyref03_Get.j1] at H
     by_cases c17 : x37_14 = true
     ·subst c17
      have H1 : (if 0 ≤ a1 then (if a1 < (a0.size : Int) then (some (1, 0, IntKind.u64.wrap ((IntKind.u64.wrap (bt a0 a1)) - 32), (⟨#[]⟩ : ByteArray), wrap64 (a1 + 1), 0)) else (none)) else (none)) = some (r1, r2, r3, r4, r5, r6) := by rw [if_pos rfl] at H; exact H
      clear H
      have H := H1
      clear H1
      by_cases c18 : 0 ≤ a1
      rotate_left
      ·rw [if_neg c18] at H
       exact absurd H (by simp)
      rw [if_pos c18] at H
      have c18b0 : decide (0 ≤ a1) = true := decide_eq_true c18
      clear c18
      by_cases c19 : a1 < (a0.size : Int)
      rotate_left
      ·rw [if_neg c19] at H
       exact absurd H (by simp)
      rw [if_pos c19] at H
      have c19b0 : decide (a1 < (a0.size : Int)) = true := decide_eq_true c19
      clear c19
      simp only [Option.some.injEq, Prod.mk.injEq] at H
      obtain ⟨rfl, rfl, rfl, rfl, rfl, rfl⟩ := H
      have p20 : 0 ≤ (a1 : Int) := of_decide_eq_true aM
      have q20 : a1 < (a0.size : Int) := of_decide_eq_true aM
      have hx20 := bt_at a0 a1
      replace p20 := eq_true p20
      replace q20 := eq_true q20
      obtain ⟨hcz21_0, hcz21_1, hcz21_2, hcz21_3⟩ := zc4 BK214
      obtain ⟨hfz21_0, hfz21_1, hfz21_2, hfz21_3⟩ := zf4 BK214
      go_wp2
      refine bodyPost_ret (results_ctt rfl _ _ gb214 32 #[.int .i64 1, .int .i64 0, .int .u64 (IntKind.u64.wrap ((IntKind.u64.wrap (bt a0 a1)) - 32)), .string (⟨#[]⟩ : ByteArray)] (0, 0) _ rfl (by refine bx ?_; refine blk_put (cs := #[.int .i64 1, .int .i64 0, .int .u64 (IntKind.u64.wrap ((IntKind.u64.wrap (bt a0 a1)) - 32)), .string (⟨#[]⟩ : ByteArray)]) ?_ 3 _ rfl; refine bx ?_; refine blk_put (cs := #[.int .i64 1, .int .i64 0, .int .u64 0, .string (⟨#[]⟩ : ByteArray)]) ?_ 2 _ rfl; refine bx ?_; refine blk_put (cs := #[.int .i64 1, .int .i64 0, .int .u64 0, .string (⟨#[]⟩ : ByteArray)]) ?_ 1 _ rfl; refine bx ?_; refine blk_put (cs := #[.int .i64 0, .int .i64 0, .int .u64 0, .string (⟨#[]⟩ : ByteArray)]) ?_ 0 _ rfl; refine bx ?_; exact BK214.out) Tryd.underlying32 rfl (by kernel_rfl)) rfl ?_
      exact ⟨eW, by repeat (first | (with_reducible first | exact HB.out | apply below_alloc | apply pw_below_drewN | apply below_drew1 | refine below_set ?_ GE214.out) | exact HB.out)⟩
     replace c17 := Bool.eq_false_iff.mpr c17
     subst c17
     have H1 : (if (bt a0 a1) = 48 then (if (wrap64 (a1 + 9)) > (a0.size : Int) then (some (0, 0, 0, (⟨#[]⟩ : ByteArray), 0, 7)) else (withyref03_Get.l0 kj14 a0 a1 0 1)) else (if (bt a0 a1) = 64 then ((withyref01_Get.f kj14 a0 (wrap64 (a1 + 1))).bind fun bt215 => (if bt215.2.2 = 0 then (some (3, 0, bt215.1, (⟨#[]⟩ : ByteArray), bt215.2.1, 0)) else (some (0, 0, 0, (⟨#[]⟩ : ByteArray), 0, bt215.2.2)))) else (if (bt a0 a1) = 80 then ((withyref03_text.f kj14 a0 (wrap64 (a1 + 1))).bind fun bt218 => (if bt218.2.2 = 0 then (some (4, 0, 0, bt218.1, bt218.2.1, 0)) else (some (0, 0, 0, (⟨#[]⟩ : ByteArray), 0, bt218.2.2)))) else (some (0, 0, 0, (⟨#[]⟩ : ByteArray), 0, 3))))) = some (r1, r2, r3, r4, r5, r6) := by rw [if_neg (show ¬ (false = true) by decide)] at H; exact H
     clear H
     have H := H1
     clear H1
     by_cases c22 : (bt a0 a1) = 48
     rotate_left
     ·rw [if_neg c22] at H
      have c22b0 : ((bt a0 a1) == 48) = false := beq_eq_false_iff_ne.mpr c22
      have c22b1 : ((bt a0 a1) != 48) = true := bne_iff_ne.mpr c22
      by_cases c31 : (bt a0 a1) = 64
      ·rw [if_pos c31] at H
       have c31b0 : ((bt a0 a1) == 64) = true := beq_iff_eq.mpr c31
       have c31b1 : ((bt a0 a1) != 64) = false := bne_eq_false_iff_eq.mpr c31
       clear c31
       replace H := bM H
       obtain ⟨⟨t215, t216, t217⟩, A320, H⟩ := H
       replace H : (if t217 = 0 then (some (3, 0, t215, (⟨#[]⟩ : ByteArray), t216, 0)) else (some (0, 0, 0, (⟨#[]⟩ : ByteArray), 0, t217))) = some (r1, r2, r3, r4, r5, r6) := H
       have A32 := Aside0.mk A320
       clear A320
       by_cases c33 : t217 = 0
       rotate_left
       ·rw [if_neg c33] at H
        have c33b0 : (t217 == 0) = false := beq_eq_false_iff_ne.mpr c33
        have c33b1 : (t217 != 0) = true := bne_iff_ne.mpr c33
        simp only [Option.some.injEq, Prod.mk.injEq] at H
        obtain ⟨rfl, rfl, rfl, rfl, rfl, rfl⟩ := H
        go_wp2_with (first | ((with_reducible refine gate_callee (f := 33) rfl ?_); refine goesL_ (some 81) rfl rfl Tryd.func33 (by kernel_rfl) rfl #[.string a0, .int .i64 (wrap64 (a1 + 1))] rfl aO ?_; (first | (with_reducible refine (withyref01_Get.calls kj14 a0 (wrap64 (a1 + 1)) t215 t216 t217 _ A32.out).mono ?_) | (with_reducible refine (withyref01_Get.calls kj14 a0 (a1 + 1) t215 t216 t217 _ (by have e_ := A32.out; rwa [(by unfold wrap64; omega : wrap64 (a1 + 1) = (a1 + 1))] at e_)).mono ?_)); rintro e w36 ⟨rfl, hb⟩; refine ⟨_, rfl, ?_⟩; replace BK214 := as_ (blk_below (g := gb214) (o := .cells #[.int .i64 0, .int .i64 0, .int .u64 0, .string (⟨#[]⟩ : ByteArray)] 32 (0, 0)) (bk BK214) hb); replace HB := as_ (below_step bA hb); (try clear hb); (try clear hb2); (try clear hk); (try clear hi); obtain ⟨hcz37_0, hcz37_1, hcz37_2, hcz37_3⟩ := zc4 BK214; obtain ⟨hfz37_0, hfz37_1, hfz37_2, hfz37_3⟩ := zf4 BK214))
        refine bodyPost_ret (results_ctt rfl _ _ gb214 32 #[.int .i64 0, .int .i64 0, .int .u64 0, .string (⟨#[]⟩ : ByteArray)] (0, 0) _ rfl (by refine bx ?_; refine blk_put (cs := #[.int .i64 0, .int .i64 0, .int .u64 0, .string (⟨#[]⟩ : ByteArray)]) ?_ 3 _ rfl; refine bx ?_; refine blk_put (cs := #[.int .i64 0, .int .i64 0, .int .u64 0, .string (⟨#[]⟩ : ByteArray)]) ?_ 2 _ rfl; refine bx ?_; refine blk_put (cs := #[.int .i64 0, .int .i64 0, .int .u64 0, .string (⟨#[]⟩ : ByteArray)]) ?_ 1 _ rfl; refine bx ?_; refine blk_put (cs := #[.int .i64 0, .int .i64 0, .int .u64 0, .string (⟨#[]⟩ : ByteArray)]) ?_ 0 _ rfl; refine bx ?_; exact BK214.out) Tryd.underlying32 rfl (by kernel_rfl)) rfl ?_
        exact ⟨eW, by repeat (first | (with_reducible first | exact HB.out | apply below_alloc | apply pw_below_drewN | apply below_drew1 | refine below_set ?_ GE214.out) | exact HB.out)⟩
       rw [if_pos c33] at H
       have c33b0 : (t217 == 0) = true := beq_iff_eq.mpr c33
       have c33b1 : (t217 != 0) = false := bne_eq_false_iff_eq.mpr c33
       clear c33
       simp only [Option.some.injEq, Prod.mk.injEq] at H
       obtain ⟨rfl, rfl, rfl, rfl, rfl, rfl⟩ := H
       go_wp2_with (first | ((with_reducible refine gate_callee (f := 33) rfl ?_); refine goesL_ (some 81) rfl rfl Tryd.func33 (by kernel_rfl) rfl #[.string a0, .int .i64 (wrap64 (a1 + 1))] rfl aO ?_; (first | (with_reducible refine (withyref01_Get.calls kj14 a0 (wrap64 (a1 + 1)) t215 t216 t217 _ A32.out).mono ?_) | (with_reducible refine (withyref01_Get.calls kj14 a0 (a1 + 1) t215 t216 t217 _ (by have e_ := A32.out; rwa [(by unfold wrap64; omega : wrap64 (a1 + 1) = (a1 + 1))] at e_)).mono ?_)); rintro e w34 ⟨rfl, hb⟩; refine ⟨_, rfl, ?_⟩; replace BK214 := as_ (blk_below (g := gb214) (o := .cells #[.int .i64 0, .int .i64 0, .int .u64 0, .string (⟨#[]⟩ : ByteArray)] 32 (0, 0)) (bk BK214) hb); replace HB := as_ (below_step bA hb); (try clear hb); (try clear hb2); (try clear hk); (try clear hi); obtain ⟨hcz35_0, hcz35_1, hcz35_2, hcz35_3⟩ := zc4 BK214; obtain ⟨hfz35_0, hfz35_1, hfz35_2, hfz35_3⟩ := zf4 BK214))
       refine bodyPost_ret (results_ctt rfl _ _ gb214 32 #[.int .i64 3, .int .i64 0, .int .u64 t215, .string (⟨#[]⟩ : ByteArray)] (0, 0) _ rfl (by refine bx ?_; refine blk_put (cs := #[.int .i64 3, .int .i64 0, .int .u64 t215, .string (⟨#[]⟩ : ByteArray)]) ?_ 3 _ rfl; refine bx ?_; refine blk_put (cs := #[.int .i64 3, .int .i64 0, .int .u64 0, .string (⟨#[]⟩ : ByteArray)]) ?_ 2 _ rfl; refine bx ?_; refine blk_put (cs := #[.int .i64 3, .int .i64 0, .int .u64 0, .string (⟨#[]⟩ : ByteArray)]) ?_ 1 _ rfl; refine bx ?_; refine blk_put (cs := #[.int .i64 0, .int .i64 0, .int .u64 0, .string (⟨#[]⟩ : ByteArray)]) ?_ 0 _ rfl; refine bx ?_; exact BK214.out) Tryd.underlying32 rfl (by kernel_rfl)) rfl ?_
       exact ⟨eW, by repeat (first | (with_reducible first | exact HB.out | apply below_alloc | apply pw_below_drewN | apply below_drew1 | refine below_set ?_ GE214.out) | exact HB.out)⟩
      rw [if_neg c31] at H
      have c31b0 : ((bt a0 a1) == 64) = false := beq_eq_false_iff_ne.mpr c31
      have c31b1 : ((bt a0 a1) != 64) = true := bne_iff_ne.mpr c31
      by_cases c38 : (bt a0 a1) = 80
      rotate_left
      ·rw [if_neg c38] at H
       have c38b0 : ((bt a0 a1) == 80) = false := beq_eq_false_iff_ne.mpr c38
       have c38b1 : ((bt a0 a1) != 80) = true := bne_iff_ne.mpr c38
       simp only [Option.some.injEq, Prod.mk.injEq] at H
       obtain ⟨rfl, rfl, rfl, rfl, rfl, rfl⟩ := H
       obtain ⟨hcz45_0, hcz45_1, hcz45_2, hcz45_3⟩ := zc4 BK214
       obtain ⟨hfz45_0, hfz45_1, hfz45_2, hfz45_3⟩ := zf4 BK214
       go_wp2
       refine bodyPost_ret (results_ctt rfl _ _ gb214 32 #[.int .i64 0, .int .i64 0, .int .u64 0, .string (⟨#[]⟩ : ByteArray)] (0, 0) _ rfl (by refine bx ?_; refine blk_put (cs := #[.int .i64 0, .int .i64 0, .int .u64 0, .string (⟨#[]⟩ : ByteArray)]) ?_ 3 _ rfl; refine bx ?_; refine blk_put (cs := #[.int .i64 0, .int .i64 0, .int .u64 0, .string (⟨#[]⟩ : ByteArray)]) ?_ 2 _ rfl; refine bx ?_; refine blk_put (cs := #[.int .i64 0, .int .i64 0, .int .u64 0, .string (⟨#[]⟩ : ByteArray)]) ?_ 1 _ rfl; refine bx ?_; refine blk_put (cs := #[.int .i64 0, .int .i64 0, .int .u64 0, .string (⟨#[]⟩ : ByteArray)]) ?_ 0 _ rfl; refine bx ?_; exact BK214.out) Tryd.underlying32 rfl (by kernel_rfl)) rfl ?_
       exact ⟨eW, by repeat (first | (with_reducible first | exact HB.out | apply below_alloc | apply pw_below_drewN | apply below_drew1 | refine below_set ?_ GE214.out) | exact HB.out)⟩
      rw [if_pos c38] at H
      have c38b0 : ((bt a0 a1) == 80) = true := beq_iff_eq.mpr c38
      have c38b1 : ((bt a0 a1) != 80) = false := bne_eq_false_iff_eq.mpr c38
      clear c38
      replace H := bM H
      obtain ⟨⟨t218, t219, t220⟩, A390, H⟩ := H
      replace H : (if t220 = 0 then (some (4, 0, 0, t218, t219, 0)) else (some (0, 0, 0, (⟨#[]⟩ : ByteArray), 0, t220))) = some (r1, r2, r3, r4, r5, r6) := H
      have A39 := Aside0.mk A390
      clear A390
      by_cases c40 : t220 = 0
      rotate_left
      ·rw [if_neg c40] at H
       have c40b0 : (t220 == 0) = false := beq_eq_false_iff_ne.mpr c40
       have c40b1 : (t220 != 0) = true := bne_iff_ne.mpr c40
       simp only [Option.some.injEq, Prod.mk.injEq] at H
       obtain ⟨rfl, rfl, rfl, rfl, rfl, rfl⟩ := H
       go_wp2_with (first | ((with_reducible refine gate_callee (f := 34) rfl ?_); refine goesL_ (some 98) rfl rfl Tryd.func34 (by kernel_rfl) rfl #[.string a0, .int .i64 (wrap64 (a1 + 1))] rfl aO ?_; (first | (with_reducible refine (withyref03_text.calls kj14 a0 (wrap64 (a1 + 1)) t218 t219 t220 _ A39.out).mono ?_) | (with_reducible refine (withyref03_text.calls kj14 a0 (a1 + 1) t218 t219 t220 _ (by have e_ := A39.out; rwa [(by unfold wrap64; omega : wrap64 (a1 + 1) = (a1 + 1))] at e_)).mono ?_)); rintro e w43 ⟨rfl, hb⟩; refine ⟨_, rfl, ?_⟩; replace BK214 := as_ (blk_below (g := gb214) (o := .cells #[.int .i64 0, .int .i64 0, .int .u64 0, .string (⟨#[]⟩ : ByteArray)] 32 (0, 0)) (bk BK214) hb); replace HB := as_ (below_step bA hb); (try clear hb); (try clear hb2); (try clear hk); (try clear hi); obtain ⟨hcz44_0, hcz44_1, hcz44_2, hcz44_3⟩ := zc4 BK214; obtain ⟨hfz44_0, hfz44_1, hfz44_2, hfz44_3⟩ := zf4 BK214))
       refine bodyPost_ret (results_ctt rfl _ _ gb214 32 #[.int .i64 0, .int .i64 0, .int .u64 0, .string (⟨#[]⟩ : ByteArray)] (0, 0) _ rfl (by refine bx ?_; refine blk_put (cs := #[.int .i64 0, .int .i64 0, .int .u64 0, .string (⟨#[]⟩ : ByteArray)]) ?_ 3 _ rfl; refine bx ?_; refine blk_put (cs := #[.int .i64 0, .int .i64 0, .int .u64 0, .string (⟨#[]⟩ : ByteArray)]) ?_ 2 _ rfl; refine bx ?_; refine blk_put (cs := #[.int .i64 0, .int .i64 0, .int .u64 0, .string (⟨#[]⟩ : ByteArray)]) ?_ 1 _ rfl; refine bx ?_; refine blk_put (cs := #[.int .i64 0, .int .i64 0, .int .u64 0, .string (⟨#[]⟩ : ByteArray)]) ?_ 0 _ rfl; refine bx ?_; exact BK214.out) Tryd.underlying32 rfl (by kernel_rfl)) rfl ?_
       exact ⟨eW, by repeat (first | (with_reducible first | exact HB.out | apply below_alloc | apply pw_below_drewN | apply below_drew1 | refine below_set ?_ GE214.out) | exact HB.out)⟩
      rw [if_pos c40] at H
      have c40b0 : (t220 == 0) = true := beq_iff_eq.mpr c40
      have c40b1 : (t220 != 0) = false := bne_eq_false_iff_eq.mpr c40
      clear c40
      simp only [Option.some.injEq, Prod.mk.injEq] at H
      obtain ⟨rfl, rfl, rfl, rfl, rfl, rfl⟩ := H
      go_wp2_with (first | ((with_reducible refine gate_callee (f := 34) rfl ?_); refine goesL_ (some 98) rfl rfl Tryd.func34 (by kernel_rfl) rfl #[.string a0, .int .i64 (wrap64 (a1 + 1))] rfl aO ?_; (first | (with_reducible refine (withyref03_text.calls kj14 a0 (wrap64 (a1 + 1)) t218 t219 t220 _ A39.out).mono ?_) | (with_reducible refine (withyref03_text.calls kj14 a0 (a1 + 1) t218 t219 t220 _ (by have e_ := A39.out; rwa [(by unfold wrap64; omega : wrap64 (a1 + 1) = (a1 + 1))] at e_)).mono ?_)); rintro e w41 ⟨rfl, hb⟩; refine ⟨_, rfl, ?_⟩; replace BK214 := as_ (blk_below (g := gb214) (o := .cells #[.int .i64 0, .int .i64 0, .int .u64 0, .string (⟨#[]⟩ : ByteArray)] 32 (0, 0)) (bk BK214) hb); replace HB := as_ (below_step bA hb); (try clear hb); (try clear hb2); (try clear hk); (try clear hi); obtain ⟨hcz42_0, hcz42_1, hcz42_2, hcz42_3⟩ := zc4 BK214; obtain ⟨hfz42_0, hfz42_1, hfz42_2, hfz42_3⟩ := zf4 BK214))
      refine bodyPost_ret (results_ctt rfl _ _ gb214 32 #[.int .i64 4, .int .i64 0, .int .u64 0, .string t218] (0, 0) _ rfl (by refine bx ?_; refine blk_put (cs := #[.int .i64 4, .int .i64 0, .int .u64 0, .string (⟨#[]⟩ : ByteArray)]) ?_ 3 _ rfl; refine bx ?_; refine blk_put (cs := #[.int .i64 4, .int .i64 0, .int .u64 0, .string (⟨#[]⟩ : ByteArray)]) ?_ 2 _ rfl; refine bx ?_; refine blk_put (cs := #[.int .i64 4, .int .i64 0, .int .u64 0, .string (⟨#[]⟩ : ByteArray)]) ?_ 1 _ rfl; refine bx ?_; refine blk_put (cs := #[.int .i64 0, .int .i64 0, .int .u64 0, .string (⟨#[]⟩ : ByteArray)]) ?_ 0 _ rfl; refine bx ?_; exact BK214.out) Tryd.underlying32 rfl (by kernel_rfl)) rfl ?_
      exact ⟨eW, by repeat (first | (with_reducible first | exact HB.out | apply below_alloc | apply pw_below_drewN | apply below_drew1 | refine below_set ?_ GE214.out) | exact HB.out)⟩
     rw [if_pos c22] at H
     have c22b0 : ((bt a0 a1) == 48) = true := beq_iff_eq.mpr c22
     have c22b1 : ((bt a0 a1) != 48) = false := bne_eq_false_iff_eq.mpr c22
     clear c22
     by_cases c23 : (wrap64 (a1 + 9)) > (a0.size : Int)
     ·rw [if_pos c23] at H
      have c23b0 : decide ((a0.size : Int) < (wrap64 (a1 + 9))) = true := decide_eq_true c23
      clear c23
      simp only [Option.some.injEq, Prod.mk.injEq] at H
      obtain ⟨rfl, rfl, rfl, rfl, rfl, rfl⟩ := H
      obtain ⟨hcz24_0, hcz24_1, hcz24_2, hcz24_3⟩ := zc4 BK214
      obtain ⟨hfz24_0, hfz24_1, hfz24_2, hfz24_3⟩ := zf4 BK214
      go_wp2
      refine bodyPost_ret (results_ctt rfl _ _ gb214 32 #[.int .i64 0, .int .i64 0, .int .u64 0, .string (⟨#[]⟩ : ByteArray)] (0, 0) _ rfl (by refine bx ?_; refine blk_put (cs := #[.int .i64 0, .int .i64 0, .int .u64 0, .string (⟨#[]⟩ : ByteArray)]) ?_ 3 _ rfl; refine bx ?_; refine blk_put (cs := #[.int .i64 0, .int .i64 0, .int .u64 0, .string (⟨#[]⟩ : ByteArray)]) ?_ 2 _ rfl; refine bx ?_; refine blk_put (cs := #[.int .i64 0, .int .i64 0, .int .u64 0, .string (⟨#[]⟩ : ByteArray)]) ?_ 1 _ rfl; refine bx ?_; refine blk_put (cs := #[.int .i64 0, .int .i64 0, .int .u64 0, .string (⟨#[]⟩ : ByteArray)]) ?_ 0 _ rfl; refine bx ?_; exact BK214.out) Tryd.underlying32 rfl (by kernel_rfl)) rfl ?_
      exact ⟨eW, by repeat (first | (with_reducible first | exact HB.out | apply below_alloc | apply pw_below_drewN | apply below_drew1 | refine below_set ?_ GE214.out) | exact HB.out)⟩
     rw [if_neg c23] at H
     have c23b0 : decide ((a0.size : Int) < (wrap64 (a1 + 9))) = false := decide_eq_false c23
     clear c23
     have H' := Aside0.mk H
     clear H
     go_wp2
     go_loopg [7, 8] kj14 (fun kq v7 v8 w' => ∃ (x7_3 : Int) (x8_3 : Int), v7 = .int .u64 x7_3 ∧ v8 = .int .i64 x8_3 ∧ Aside0 (withyref03_Get.l0 kq a0 a1 x7_3 x8_3 = some (r1, r2, r3, r4, r5, r6)) ∧ Aside0 (kq ≤ kj14) ∧ Aside0 (w'.heap[gb214]? = some (.cells #[.int .i64 0, .int .i64 0, .int .u64 0, .string (⟨#[]⟩ : ByteArray)] 32 (0, 0))) ∧ Aside0 (Below w.heap.size w w'))
     case atStart => exact ⟨(0), (1), (by first | rfl | (simp; done) | (simp [*]; done)), (by first | rfl | (simp; done) | (simp [*]; done)), H', ⟨Nat.le_refl _⟩, ⟨by refine bx ?_; exact BK214.out⟩, ⟨by repeat (first | (with_reducible first | exact HB.out | apply below_alloc | apply pw_below_drewN | apply below_drew1 | refine below_set ?_ GE214.out) | exact HB.out)⟩⟩
     case round =>
      clear H'
      try clear c1
      try clear p1
      try clear q1
      try clear hx1
      try clear c2
      try clear p2
      try clear q2
      try clear hx2
      try clear c5
      try clear c5b0
      try clear c5b1
      try clear c6
      try clear p6
      try clear c8
      try clear c8b0
      try clear c8b1
      try clear c10
      try clear c10b0
      try clear c11
      try clear c11b0
      try clear p12
      try clear q12
      try clear hx12
      try clear c13
      try clear c13b0
      try clear c13b1
      try clear c14
      try clear c16
      try clear c16b0
      try clear c16b1
      try clear c17
      try clear c18
      try clear c18b0
      try clear c19
      try clear c19b0
      try clear p20
      try clear q20
      try clear hx20
      try clear c22
      try clear c22b0
      try clear c22b1
      try clear c23
      try clear c23b0
      try clear hcz14_0
      try clear hcz14_1
      try clear hcz14_2
      try clear hcz14_3
      try clear hcz21_0
      try clear hcz21_1
      try clear hcz21_2
      try clear hcz21_3
      try clear hcz24_0
      try clear hcz24_1
      try clear hcz24_2
      try clear hcz24_3
      try clear hcz7_0
      try clear hcz7_1
      try clear hcz7_2
      try clear hcz7_3
      try clear hcz9_0
      try clear hcz9_1
      try clear hcz9_2
      try clear hcz9_3
      try clear hfz14_0
      try clear hfz14_1
      try clear hfz14_2
      try clear hfz14_3
      try clear hfz21_0
      try clear hfz21_1
      try clear hfz21_2
      try clear hfz21_3
      try clear hfz24_0
      try clear hfz24_1
      try clear hfz24_2
      try clear hfz24_3
      try clear hfz7_0
      try clear hfz7_1
      try clear hfz7_2
      try clear hfz7_3
      try clear hfz9_0
      try clear hfz9_1
      try clear hfz9_2
      try clear hfz9_3
      try clear p1
      try clear p12
      try clear p2
      try clear p20
      try clear p6
      try clear q1
      try clear q12
      try clear q20
      obtain ⟨x7_3, x8_3, rfl, rfl, HA, HK3, BK214, HB⟩ := hrel
      cases gk with
      | zero => exact absurd HA.out (by simp [withyref03_Get.l0])
      | succ k3 =>
       have H := HA.out
       clear HA
       simp only [withyref03_Get.l0] at H
       by_cases c25 : x8_3 < 9
       rotate_left
       ·rw [if_neg c25] at H
        have c25b0 : decide (x8_3 < 9) = false := decide_eq_false c25
        clear c25
        simp only [Option.some.injEq, Prod.mk.injEq] at H
        obtain ⟨rfl, rfl, rfl, rfl, rfl, rfl⟩ := H
        obtain ⟨hcz30_0, hcz30_1, hcz30_2, hcz30_3⟩ := zc4 BK214
        obtain ⟨hfz30_0, hfz30_1, hfz30_2, hfz30_3⟩ := zf4 BK214
        go_wp2
        refine bodyPost_ret (results_ctt rfl _ _ gb214 32 #[.int .i64 2, .int .i64 (wrap64 (IntKind.u64.wrap (x7_3 - 9223372036854775808))), .int .u64 0, .string (⟨#[]⟩ : ByteArray)] (0, 0) _ rfl (by refine bx ?_; refine blk_put (cs := #[.int .i64 2, .int .i64 (wrap64 (IntKind.u64.wrap (x7_3 - 9223372036854775808))), .int .u64 0, .string (⟨#[]⟩ : ByteArray)]) ?_ 3 _ rfl; refine bx ?_; refine blk_put (cs := #[.int .i64 2, .int .i64 (wrap64 (IntKind.u64.wrap (x7_3 - 9223372036854775808))), .int .u64 0, .string (⟨#[]⟩ : ByteArray)]) ?_ 2 _ rfl; refine bx ?_; refine blk_put (cs := #[.int .i64 2, .int .i64 0, .int .u64 0, .string (⟨#[]⟩ : ByteArray)]) ?_ 1 _ rfl; refine bx ?_; refine blk_put (cs := #[.int .i64 0, .int .i64 0, .int .u64 0, .string (⟨#[]⟩ : ByteArray)]) ?_ 0 _ rfl; refine bx ?_; exact BK214.out) Tryd.underlying32 rfl (by kernel_rfl)) rfl ?_
        exact ⟨eW, by repeat (first | (with_reducible first | exact HB.out | apply below_alloc | apply pw_below_drewN | apply below_drew1 | refine below_set ?_ GE214.out) | exact HB.out)⟩
       rw [if_pos c25] at H
       have c25b0 : decide (x8_3 < 9) = true := decide_eq_true c25
       clear c25
       obtain ⟨ji26, hji26⟩ : ∃ j_ : Int, (wrap64 (a1 + x8_3)) = j_ := ⟨_, rfl⟩
       replace H : (if 0 ≤ (ji26) then (if (ji26) < (a0.size : Int) then (withyref03_Get.l0 k3 a0 a1 (IntKind.u64.wrap ((IntKind.u64.wrap (x7_3 * 256)) + (IntKind.u64.wrap (bt a0 (ji26))))) (wrap64 (x8_3 + 1))) else (none)) else (none)) = some (r1, r2, r3, r4, r5, r6) := by first | (rw [hji26] at H; exact H) | (simp only [hji26] at H ⊢; exact H)
       have hji26w : (IntKind.i64.wrap (a1 + x8_3)) = ji26 := (i64_w _).trans hji26
       by_cases c27 : 0 ≤ (ji26)
       rotate_left
       ·rw [if_neg c27] at H
        exact absurd H (by simp)
       rw [if_pos c27] at H
       have c27b0 : decide (0 ≤ (ji26)) = true := decide_eq_true c27
       clear c27
       by_cases c28 : (ji26) < (a0.size : Int)
       rotate_left
       ·rw [if_neg c28] at H
        exact absurd H (by simp)
       rw [if_pos c28] at H
       have c28b0 : decide ((ji26) < (a0.size : Int)) = true := decide_eq_true c28
       clear c28
       have H' := Aside0.mk H
       clear H
       have p29 : 0 ≤ ((ji26) : Int) := of_decide_eq_true aM
       have q29 : (ji26) < (a0.size : Int) := of_decide_eq_true aM
       have hx29 := bt_at a0 (ji26)
       replace p29 := eq_true p29
       replace q29 := eq_true q29
       go_wp2
       go_roundg k3
       case measure => have := HJ2.out; have := HJ14.out; have := HK3.out; omega
       case rel => exact ⟨(IntKind.u64.wrap ((IntKind.u64.wrap (x7_3 * 256)) + (IntKind.u64.wrap (bt a0 (ji26))))), (wrap64 (x8_3 + 1)), (by first | rfl | (simp; done) | (simp only [← hji26] <;> (first | rfl | simp)) | (simp [*]; done)), (by first | rfl | (simp; done) | (simp [*]; done)), H', ⟨by have := HJ2.out; have := HJ14.out; have := HK3.out; omega⟩, ⟨by refine bx ?_; exact BK214.out⟩, ⟨by repeat (first | (with_reducible first | exact HB.out | apply below_alloc | apply pw_below_drewN | apply below_drew1 | refine below_set ?_ GE214.out) | exact HB.out)⟩⟩
/-! ### cmp_Or_int: function 36 -/
def cmp_Or_int.l0 : Nat → Int → List Int → Int → Int → Option (Int)
 | 0, _, _, _, _ => none
 | k + 1, x3, x6, x7, x8 => if x8 < x7 then (if 0 ≤ x8 then (if x8 < (x6.length : Int) then (if (rd x6 x8) = x3 then (cmp_Or_int.l0 k x3 x6 x7 (wrap64 (x8 + 1))) else (some (rd x6 x8))) else (none)) else (none)) else (some x3)
def cmp_Or_int.f (k : Nat) (l0 : List Int) : Option (Int) := cmp_Or_int.l0 k 0 l0 (l0.length : Int) 0
theorem cmp_Or_int.mono_l : ∀ k, (∀ y0 y1 y2 y3, LeO (cmp_Or_int.l0 k y0 y1 y2 y3) (cmp_Or_int.l0 (k + 1) y0 y1 y2 y3))
 | 0 => fun _ _ _ _ r h => by simp [cmp_Or_int.l0] at h
 | k + 1 => by
  have ih0 := cmp_Or_int.mono_l k
  ·intro y0 y1 y2 y3
   unfold cmp_Or_int.l0
   repeat' first
   | (with_reducible exact ih0 _ _ _ _)
   | (with_reducible exact LeO.refl _)
   | (with_reducible exact LeO.none _)
   | (with_reducible refine LeO.ite ?_ ?_)
   | (with_reducible refine LeO.bind ?_ (fun _ => ?_))
   | exact ih0 _ _ _ _
   | exact LeO.none _
   | refine LeO.ite ?_ ?_
   | refine LeO.bind ?_ (fun _ => ?_)
theorem cmp_Or_int.mono : ∀ a0 k, LeO (cmp_Or_int.f k a0) (cmp_Or_int.f (k + 1) a0) := by
 intro a0 k
 have ih0 := cmp_Or_int.mono_l k
 unfold cmp_Or_int.f
 repeat' first
   | (with_reducible exact ih0 _ _ _ _)
   | (with_reducible exact LeO.refl _)
   | (with_reducible exact LeO.none _)
   | (with_reducible refine LeO.ite ?_ ?_)
   | (with_reducible refine LeO.bind ?_ (fun _ => ?_))
   | exact ih0 _ _ _ _
   | exact LeO.none _
   | refine LeO.ite ?_ ?_
   | refine LeO.bind ?_ (fun _ => ?_)
set_option maxHeartbeats 8000000 in
set_option maxRecDepth 100000 in
theorem cmp_Or_int.calls (k : Nat) (A0 : Option Addr) (c0 : Nat) (l0 : List Int) (r : Int) (w : World) (hr0 : Kd.C (Kd.int .i64) w A0 l0.length l0) (hc0 : l0.length ≤ c0) (h : cmp_Or_int.f k l0 = some r) :
  Calls Tryd.prog 36 #[.slice A0 l0.length c0] w fun e w' => e = .returned (.int .i64 r) ∧ Drawn0 w w' := by
 have HR0 := Aside0.mk hr0
 have HC0 := Aside0.mk hc0
 clear hr0 hc0
 have H : (cmp_Or_int.l0 k 0 l0 (l0.length : Int) 0) = some r := h
 clear h
 have H' := Aside0.mk H
 clear H
 go_enter Tryd.func36, Tryd.ntmps36
 go_wp2
 go_loopg [8] k (fun kq v8 w' => ∃ (x8_1 : Int), v8 = .int .i64 x8_1 ∧ Aside0 (cmp_Or_int.l0 kq 0 l0 (l0.length : Int) x8_1 = some r) ∧ Aside0 (kq ≤ k) ∧ Drawn0 w w')
 case atStart => exact ⟨(0), (by first | rfl | (simp; done) | (simp [*]; done)), H', ⟨Nat.le_refl _⟩, by repeat (first | exact Drawn0.refl _ | apply Drawn0.step)⟩
 case round =>
  clear H'
  obtain ⟨x8_1, rfl, HA, HK1, ⟨m1, rfl⟩⟩ := hrel
  cases gk with
  | zero => exact absurd HA.out (by simp [cmp_Or_int.l0])
  | succ k1 =>
   have H := HA.out
   clear HA
   simp only [cmp_Or_int.l0] at H
   by_cases c2 : x8_1 < (l0.length : Int)
   rotate_left
   ·rw [if_neg c2] at H
    have c2b0 : decide (x8_1 < (l0.length : Int)) = false := decide_eq_false c2
    clear c2
    obtain rfl := Option.some.inj H
    go_wp2
    go_ret
    exact ⟨by first | rfl | (simp; done) | (simp [*]; done), by repeat (first | exact Drawn0.refl _ | apply Drawn0.step)⟩
 
   rw [if_pos c2] at H
   have c2b0 : decide (x8_1 < (l0.length : Int)) = true := decide_eq_true c2
   clear c2
   by_cases c3 : 0 ≤ x8_1
   rotate_left
   ·rw [if_neg c3] at H
    exact absurd H (by simp)
   rw [if_pos c3] at H
   have c3b0 : decide (0 ≤ x8_1) = true := decide_eq_true c3
   clear c3
   by_cases c4 : x8_1 < (l0.length : Int)
   rotate_left
   ·rw [if_neg c4] at H
    exact absurd H (by simp)
   rw [if_pos c4] at H
   have c4b0 : decide (x8_1 < (l0.length : Int)) = true := decide_eq_true c4
   clear c4
   by_cases c5 : (rd l0 x8_1) = 0
   rotate_left
   ·rw [if_neg c5] at H
    have c5b0 : ((rd l0 x8_1) == 0) = false := beq_eq_false_iff_ne.mpr c5
    have c5b1 : ((rd l0 x8_1) != 0) = true := bne_iff_ne.mpr c5
    obtain rfl := Option.some.inj H
    have p221 : 0 ≤ (x8_1 : Int) := of_decide_eq_true aM
    have q221 : x8_1 < (l0.length : Int) := of_decide_eq_true aM
    obtain ⟨ad221, e221, hx221_0⟩ := Kd.at_int HR0.out x8_1 p221 q221
    cases e221
    replace p221 := eq_true p221
    replace q221 := eq_true q221
    go_wp2
    go_ret
    exact ⟨by first | rfl | (simp; done) | (simp [*]; done), by repeat (first | exact Drawn0.refl _ | apply Drawn0.step)⟩
   rw [if_pos c5] at H
   have c5b0 : ((rd l0 x8_1) == 0) = true := beq_iff_eq.mpr c5
   have c5b1 : ((rd l0 x8_1) != 0) = false := bne_eq_false_iff_eq.mpr c5
   clear c5
   have H' := Aside0.mk H
   clear H
   have p221 : 0 ≤ (x8_1 : Int) := of_decide_eq_true aM
   have q221 : x8_1 < (l0.length : Int) := of_decide_eq_true aM
   obtain ⟨ad221, e221, hx221_0⟩ := Kd.at_int HR0.out x8_1 p221 q221
   cases e221
   replace p221 := eq_true p221
   replace q221 := eq_true q221
   go_wp2
   go_roundg k1
   case measure => have := HK1.out; omega
   case rel => exact ⟨(wrap64 (x8_1 + 1)), (by first | rfl | (simp; done) | (simp [*]; done)), H', ⟨by have := HK1.out; omega⟩, by repeat (first | exact Drawn0.refl _ | apply Drawn0.step)⟩
/-! ### cmp_isNaN_int: function 46 -/
def cmp_isNaN_int.f (a0 : Int) : Option (Bool) := some (a0 != a0)
set_option maxHeartbeats 8000000 in
set_option maxRecDepth 100000 in
theorem cmp_isNaN_int.calls (a0 : Int) (r : Bool) (w : World) (h : cmp_isNaN_int.f a0 = some r) :
  Calls Tryd.prog 46 #[.int .i64 a0] w fun e w' => e = .returned (.bool r) ∧ Drawn0 w w' := by
 have H : (some (a0 != a0)) = some r := h
 clear h
 obtain rfl := Option.some.inj H
 go_enter Tryd.func46, Tryd.ntmps46
 go_wp2
 go_ret
 exact ⟨by first | rfl | (simp; done) | (simp [*]; done), by repeat (first | exact Drawn0.refl _ | apply Drawn0.step)⟩

/-! ### cmp_Compare_int: function 37 -/
def cmp_Compare_int.f (a0 : Int) (a1 : Int) : Option (Int) := (cmp_isNaN_int.f a0).bind fun t222 => ((cmp_isNaN_int.f a1).bind fun t223 => (if t222 = true then (if t223 = true then (some 0) else (some (-1))) else (if t223 = true then (some 1) else (if a0 < a1 then (some (-1)) else (if a0 > a1 then (some 1) else (some 0))))))
set_option maxHeartbeats 8000000 in
set_option maxRecDepth 100000 in
theorem cmp_Compare_int.calls (a0 : Int) (a1 : Int) (r : Int) (w : World) (h : cmp_Compare_int.f a0 a1 = some r) :
  Calls Tryd.prog 37 #[.int .i64 a0, .int .i64 a1] w fun e w' => e = .returned (.int .i64 r) ∧ Drawn0 w w' := by
 have H : ((cmp_isNaN_int.f a0).bind fun t222 => ((cmp_isNaN_int.f a1).bind fun t223 => (if t222 = true then (if t223 = true then (some 0) else (some (-1))) else (if t223 = true then (some 1) else (if a0 < a1 then (some (-1)) else (if a0 > a1 then (some 1) else (some 0))))))) = some r := h
 clear h
 replace H := bM H
 obtain ⟨t222, A30, H⟩ := H
 replace H : ((cmp_isNaN_int.f a1).bind fun t223 => (if t222 = true then (if t223 = true then (some 0) else (some (-1))) else (if t223 = true then (some 1) else (if a0 < a1 then (some (-1)) else (if a0 > a1 then (some 1) else (some 0)))))) = some r := H
 have A3 := Aside0.mk A30
 clear A30
 replace H := bM H
 obtain ⟨t223, A40, H⟩ := H
 replace H : (if t222 = true then (if t223 = true then (some 0) else (some (-1))) else (if t223 = true then (some 1) else (if a0 < a1 then (some (-1)) else (if a0 > a1 then (some 1) else (some 0))))) = some r := H
 have A4 := Aside0.mk A40
 clear A40
 by_cases c5 : t222 = true
 ·subst c5
  have H1 : (if t223 = true then (some 0) else (some (-1))) = some r := by rw [if_pos rfl] at H; exact H
  clear H
  have H := H1
  clear H1
  by_cases c6 : t223 = true
  ·subst c6
   have H1 : (some 0) = some r := by rw [if_pos rfl] at H; exact H
   clear H
   have H := H1
   clear H1
   obtain rfl := Option.some.inj H
   go_enter Tryd.func37, Tryd.ntmps37
   go_wp2_with (first | ((with_reducible refine gate_callee (f := 46) rfl ?_); refine goesL_ (some 8) rfl rfl Tryd.func46 (by kernel_rfl) rfl #[.int .i64 a0] rfl aO ?_; (with_reducible refine (cmp_isNaN_int.calls a0 true _ A3.out).mono ?_); rintro e w' ⟨rfl, ⟨nd, rfl⟩⟩; refine ⟨_, rfl, ?_⟩) | ((with_reducible refine gate_callee (f := 46) rfl ?_); refine goesL_ (some 10) rfl rfl Tryd.func46 (by kernel_rfl) rfl #[.int .i64 a1] rfl aO ?_; (with_reducible refine (cmp_isNaN_int.calls a1 true _ A4.out).mono ?_); rintro e w' ⟨rfl, ⟨nd, rfl⟩⟩; refine ⟨_, rfl, ?_⟩))
   go_ret
   exact ⟨by first | rfl | (simp; done) | (simp [*]; done), by repeat (first | exact Drawn0.refl _ | apply Drawn0.step)⟩
  replace c6 := Bool.eq_false_iff.mpr c6
  subst c6
  have H1 : (some (-1)) = some r := by rw [if_neg (show ¬ (false = true) by decide)] at H; exact H
  clear H
  have H := H1
  clear H1
  obtain rfl := Option.some.inj H
  go_enter Tryd.func37, Tryd.ntmps37
  go_wp2_with (first | ((with_reducible refine gate_callee (f := 46) rfl ?_); refine goesL_ (some 8) rfl rfl Tryd.func46 (by kernel_rfl) rfl #[.int .i64 a0] rfl aO ?_; (with_reducible refine (cmp_isNaN_int.calls a0 true _ A3.out).mono ?_); rintro e w' ⟨rfl, ⟨nd, rfl⟩⟩; refine ⟨_, rfl, ?_⟩) | ((with_reducible refine gate_callee (f := 46) rfl ?_); refine goesL_ (some 10) rfl rfl Tryd.func46 (by kernel_rfl) rfl #[.int .i64 a1] rfl aO ?_; (with_reducible refine (cmp_isNaN_int.calls a1 false _ A4.out).mono ?_); rintro e w' ⟨rfl, ⟨nd, rfl⟩⟩; refine ⟨_, rfl, ?_⟩))
  go_ret
  exact ⟨by first | rfl | (simp; done) | (simp [*]; done), by repeat (first | exact Drawn0.refl _ | apply Drawn0.step)⟩
 replace c5 := Bool.eq_false_iff.mpr c5
 subst c5
 have H1 : (if t223 = true then (some 1) else (if a0 < a1 then (some (-1)) else (if a0 > a1 then (some 1) else (some 0)))) = some r := by rw [if_neg (show ¬ (false = true) by decide)] at H; exact H
 clear H
 have H := H1
 clear H1
 by_cases c7 : t223 = true
 ·subst c7
  have H1 : (some 1) = some r := by rw [if_pos rfl] at H; exact H
  clear H
  have H := H1
  clear H1
  obtain rfl := Option.some.inj H
  go_enter Tryd.func37, Tryd.ntmps37
  go_wp2_with (first | ((with_reducible refine gate_callee (f := 46) rfl ?_); refine goesL_ (some 8) rfl rfl Tryd.func46 (by kernel_rfl) rfl #[.int .i64 a0] rfl aO ?_; (with_reducible refine (cmp_isNaN_int.calls a0 false _ A3.out).mono ?_); rintro e w' ⟨rfl, ⟨nd, rfl⟩⟩; refine ⟨_, rfl, ?_⟩) | ((with_reducible refine gate_callee (f := 46) rfl ?_); refine goesL_ (some 10) rfl rfl Tryd.func46 (by kernel_rfl) rfl #[.int .i64 a1] rfl aO ?_; (with_reducible refine (cmp_isNaN_int.calls a1 true _ A4.out).mono ?_); rintro e w' ⟨rfl, ⟨nd, rfl⟩⟩; refine ⟨_, rfl, ?_⟩))
  go_ret
  exact ⟨by first | rfl | (simp; done) | (simp [*]; done), by repeat (first | exact Drawn0.refl _ | apply Drawn0.step)⟩
 replace c7 := Bool.eq_false_iff.mpr c7
 subst c7
 have H1 : (if a0 < a1 then (some (-1)) else (if a0 > a1 then (some 1) else (some 0))) = some r := by rw [if_neg (show ¬ (false = true) by decide)] at H; exact H
 clear H
 have H := H1
 clear H1
 by_cases c8 : a0 < a1
 ·rw [if_pos c8] at H
  have c8b0 : decide (a0 < a1) = true := decide_eq_true c8
  clear c8
  obtain rfl := Option.some.inj H
  go_enter Tryd.func37, Tryd.ntmps37
  go_wp2_with (first | ((with_reducible refine gate_callee (f := 46) rfl ?_); refine goesL_ (some 8) rfl rfl Tryd.func46 (by kernel_rfl) rfl #[.int .i64 a0] rfl aO ?_; (with_reducible refine (cmp_isNaN_int.calls a0 false _ A3.out).mono ?_); rintro e w' ⟨rfl, ⟨nd, rfl⟩⟩; refine ⟨_, rfl, ?_⟩) | ((with_reducible refine gate_callee (f := 46) rfl ?_); refine goesL_ (some 10) rfl rfl Tryd.func46 (by kernel_rfl) rfl #[.int .i64 a1] rfl aO ?_; (with_reducible refine (cmp_isNaN_int.calls a1 false _ A4.out).mono ?_); rintro e w' ⟨rfl, ⟨nd, rfl⟩⟩; refine ⟨_, rfl, ?_⟩))
  go_ret
  exact ⟨by first | rfl | (simp; done) | (simp [*]; done), by repeat (first | exact Drawn0.refl _ | apply Drawn0.step)⟩
 rw [if_neg c8] at H
 have c8b0 : decide (a0 < a1) = false := decide_eq_false c8
 clear c8
 by_cases c9 : a0 > a1
 ·rw [if_pos c9] at H
  have c9b0 : decide (a1 < a0) = true := decide_eq_true c9
  clear c9
  obtain rfl := Option.some.inj H
  go_enter Tryd.func37, Tryd.ntmps37
  go_wp2_with (first | ((with_reducible refine gate_callee (f := 46) rfl ?_); refine goesL_ (some 8) rfl rfl Tryd.func46 (by kernel_rfl) rfl #[.int .i64 a0] rfl aO ?_; (with_reducible refine (cmp_isNaN_int.calls a0 false _ A3.out).mono ?_); rintro e w' ⟨rfl, ⟨nd, rfl⟩⟩; refine ⟨_, rfl, ?_⟩) | ((with_reducible refine gate_callee (f := 46) rfl ?_); refine goesL_ (some 10) rfl rfl Tryd.func46 (by kernel_rfl) rfl #[.int .i64 a1] rfl aO ?_; (with_reducible refine (cmp_isNaN_int.calls a1 false _ A4.out).mono ?_); rintro e w' ⟨rfl, ⟨nd, rfl⟩⟩; refine ⟨_, rfl, ?_⟩))
  go_ret
  exact ⟨by first | rfl | (simp; done) | (simp [*]; done), by repeat (first | exact Drawn0.refl _ | apply Drawn0.step)⟩
 rw [if_neg c9] at H
 have c9b0 : decide (a1 < a0) = false := decide_eq_false c9
 clear c9
 obtain rfl := Option.some.inj H
 go_enter Tryd.func37, Tryd.ntmps37
 go_wp2_with (first | ((with_reducible refine gate_callee (f := 46) rfl ?_); refine goesL_ (some 8) rfl rfl Tryd.func46 (by kernel_rfl) rfl #[.int .i64 a0] rfl aO ?_; (with_reducible refine (cmp_isNaN_int.calls a0 false _ A3.out).mono ?_); rintro e w' ⟨rfl, ⟨nd, rfl⟩⟩; refine ⟨_, rfl, ?_⟩) | ((with_reducible refine gate_callee (f := 46) rfl ?_); refine goesL_ (some 10) rfl rfl Tryd.func46 (by kernel_rfl) rfl #[.int .i64 a1] rfl aO ?_; (with_reducible refine (cmp_isNaN_int.calls a1 false _ A4.out).mono ?_); rintro e w' ⟨rfl, ⟨nd, rfl⟩⟩; refine ⟨_, rfl, ?_⟩))
 go_ret
 exact ⟨by first | rfl | (simp; done) | (simp [*]; done), by repeat (first | exact Drawn0.refl _ | apply Drawn0.step)⟩

/-! ### cmp_isNaN_int64: function 47 -/
def cmp_isNaN_int64.f (a0 : Int) : Option (Bool) := some (a0 != a0)
set_option maxHeartbeats 8000000 in
set_option maxRecDepth 100000 in
theorem cmp_isNaN_int64.calls (a0 : Int) (r : Bool) (w : World) (h : cmp_isNaN_int64.f a0 = some r) :
  Calls Tryd.prog 47 #[.int .i64 a0] w fun e w' => e = .returned (.bool r) ∧ Drawn0 w w' := by
 have H : (some (a0 != a0)) = some r := h
 clear h
 obtain rfl := Option.some.inj H
 go_enter Tryd.func47, Tryd.ntmps47
 go_wp2
 go_ret
 exact ⟨by first | rfl | (simp; done) | (simp [*]; done), by repeat (first | exact Drawn0.refl _ | apply Drawn0.step)⟩

/-! ### cmp_Compare_int64: function 38 -/
def cmp_Compare_int64.f (a0 : Int) (a1 : Int) : Option (Int) := (cmp_isNaN_int64.f a0).bind fun t224 => ((cmp_isNaN_int64.f a1).bind fun t225 => (if t224 = true then (if t225 = true then (some 0) else (some (-1))) else (if t225 = true then (some 1) else (if a0 < a1 then (some (-1)) else (if a0 > a1 then (some 1) else (some 0))))))
set_option maxHeartbeats 8000000 in
set_option maxRecDepth 100000 in
theorem cmp_Compare_int64.calls (a0 : Int) (a1 : Int) (r : Int) (w : World) (h : cmp_Compare_int64.f a0 a1 = some r) :
  Calls Tryd.prog 38 #[.int .i64 a0, .int .i64 a1] w fun e w' => e = .returned (.int .i64 r) ∧ Drawn0 w w' := by
 have H : ((cmp_isNaN_int64.f a0).bind fun t224 => ((cmp_isNaN_int64.f a1).bind fun t225 => (if t224 = true then (if t225 = true then (some 0) else (some (-1))) else (if t225 = true then (some 1) else (if a0 < a1 then (some (-1)) else (if a0 > a1 then (some 1) else (some 0))))))) = some r := h
 clear h
 replace H := bM H
 obtain ⟨t224, A30, H⟩ := H
 replace H : ((cmp_isNaN_int64.f a1).bind fun t225 => (if t224 = true then (if t225 = true then (some 0) else (some (-1))) else (if t225 = true then (some 1) else (if a0 < a1 then (some (-1)) else (if a0 > a1 then (some 1) else (some 0)))))) = some r := H
 have A3 := Aside0.mk A30
 clear A30
 replace H := bM H
 obtain ⟨t225, A40, H⟩ := H
 replace H : (if t224 = true then (if t225 = true then (some 0) else (some (-1))) else (if t225 = true then (some 1) else (if a0 < a1 then (some (-1)) else (if a0 > a1 then (some 1) else (some 0))))) = some r := H
 have A4 := Aside0.mk A40
 clear A40
 by_cases c5 : t224 = true
 ·subst c5
  have H1 : (if t225 = true then (some 0) else (some (-1))) = some r := by rw [if_pos rfl] at H; exact H
  clear H
  have H := H1
  clear H1
  by_cases c6 : t225 = true
  ·subst c6
   have H1 : (some 0) = some r := by rw [if_pos rfl] at H; exact H
   clear H
   have H := H1
   clear H1
   obtain rfl := Option.some.inj H
   go_enter Tryd.func38, Tryd.ntmps38
   go_wp2_with (first | ((with_reducible refine gate_callee (f := 47) rfl ?_); refine goesL_ (some 8) rfl rfl Tryd.func47 (by kernel_rfl) rfl #[.int .i64 a0] rfl aO ?_; (with_reducible refine (cmp_isNaN_int64.calls a0 true _ A3.out).mono ?_); rintro e w' ⟨rfl, ⟨nd, rfl⟩⟩; refine ⟨_, rfl, ?_⟩) | ((with_reducible refine gate_callee (f := 47) rfl ?_); refine goesL_ (some 10) rfl rfl Tryd.func47 (by kernel_rfl) rfl #[.int .i64 a1] rfl aO ?_; (with_reducible refine (cmp_isNaN_int64.calls a1 true _ A4.out).mono ?_); rintro e w' ⟨rfl, ⟨nd, rfl⟩⟩; refine ⟨_, rfl, ?_⟩))
   go_ret
   exact ⟨by first | rfl | (simp; done) | (simp [*]; done), by repeat (first | exact Drawn0.refl _ | apply Drawn0.step)⟩
  replace c6 := Bool.eq_false_iff.mpr c6
  subst c6
  have H1 : (some (-1)) = some r := by rw [if_neg (show ¬ (false = true) by decide)] at H; exact H
  clear H
  have H := H1
  clear H1
  obtain rfl := Option.some.inj H
  go_enter Tryd.func38, Tryd.ntmps38
  go_wp2_with (first | ((with_reducible refine gate_callee (f := 47) rfl ?_); refine goesL_ (some 8) rfl rfl Tryd.func47 (by kernel_rfl) rfl #[.int .i64 a0] rfl aO ?_; (with_reducible refine (cmp_isNaN_int64.calls a0 true _ A3.out).mono ?_); rintro e w' ⟨rfl, ⟨nd, rfl⟩⟩; refine ⟨_, rfl, ?_⟩) | ((with_reducible refine gate_callee (f := 47) rfl ?_); refine goesL_ (some 10) rfl rfl Tryd.func47 (by kernel_rfl) rfl #[.int .i64 a1] rfl aO ?_; (with_reducible refine (cmp_isNaN_int64.calls a1 false _ A4.out).mono ?_); rintro e w' ⟨rfl, ⟨nd, rfl⟩⟩; refine ⟨_, rfl, ?_⟩))
  go_ret
  exact ⟨by first | rfl | (simp; done) | (simp [*]; done), by repeat (first | exact Drawn0.refl _ | apply Drawn0.step)⟩
 replace c5 := Bool.eq_false_iff.mpr c5
 subst c5
 have H1 : (if t225 = true then (some 1) else (if a0 < a1 then (some (-1)) else (if a0 > a1 then (some 1) else (some 0)))) = some r := by rw [if_neg (show ¬ (false = true) by decide)] at H; exact H
 clear H
 have H := H1
 clear H1
 by_cases c7 : t225 = true
 ·subst c7
  have H1 : (some 1) = some r := by rw [if_pos rfl] at H; exact H
  clear H
  have H := H1
  clear H1
  obtain rfl := Option.some.inj H
  go_enter Tryd.func38, Tryd.ntmps38
  go_wp2_with (first | ((with_reducible refine gate_callee (f := 47) rfl ?_); refine goesL_ (some 8) rfl rfl Tryd.func47 (by kernel_rfl) rfl #[.int .i64 a0] rfl aO ?_; (with_reducible refine (cmp_isNaN_int64.calls a0 false _ A3.out).mono ?_); rintro e w' ⟨rfl, ⟨nd, rfl⟩⟩; refine ⟨_, rfl, ?_⟩) | ((with_reducible refine gate_callee (f := 47) rfl ?_); refine goesL_ (some 10) rfl rfl Tryd.func47 (by kernel_rfl) rfl #[.int .i64 a1] rfl aO ?_; (with_reducible refine (cmp_isNaN_int64.calls a1 true _ A4.out).mono ?_); rintro e w' ⟨rfl, ⟨nd, rfl⟩⟩; refine ⟨_, rfl, ?_⟩))
  go_ret
  exact ⟨by first | rfl | (simp; done) | (simp [*]; done), by repeat (first | exact Drawn0.refl _ | apply Drawn0.step)⟩
 replace c7 := Bool.eq_false_iff.mpr c7
 subst c7
 have H1 : (if a0 < a1 then (some (-1)) else (if a0 > a1 then (some 1) else (some 0))) = some r := by rw [if_neg (show ¬ (false = true) by decide)] at H; exact H
 clear H
 have H := H1
 clear H1
 by_cases c8 : a0 < a1
 ·rw [if_pos c8] at H
  have c8b0 : decide (a0 < a1) = true := decide_eq_true c8
  clear c8
  obtain rfl := Option.some.inj H
  go_enter Tryd.func38, Tryd.ntmps38
  go_wp2_with (first | ((with_reducible refine gate_callee (f := 47) rfl ?_); refine goesL_ (some 8) rfl rfl Tryd.func47 (by kernel_rfl) rfl #[.int .i64 a0] rfl aO ?_; (with_reducible refine (cmp_isNaN_int64.calls a0 false _ A3.out).mono ?_); rintro e w' ⟨rfl, ⟨nd, rfl⟩⟩; refine ⟨_, rfl, ?_⟩) | ((with_reducible refine gate_callee (f := 47) rfl ?_); refine goesL_ (some 10) rfl rfl Tryd.func47 (by kernel_rfl) rfl #[.int .i64 a1] rfl aO ?_; (with_reducible refine (cmp_isNaN_int64.calls a1 false _ A4.out).mono ?_); rintro e w' ⟨rfl, ⟨nd, rfl⟩⟩; refine ⟨_, rfl, ?_⟩))
  go_ret
  exact ⟨by first | rfl | (simp; done) | (simp [*]; done), by repeat (first | exact Drawn0.refl _ | apply Drawn0.step)⟩
 rw [if_neg c8] at H
 have c8b0 : decide (a0 < a1) = false := decide_eq_false c8
 clear c8
 by_cases c9 : a0 > a1
 ·rw [if_pos c9] at H
  have c9b0 : decide (a1 < a0) = true := decide_eq_true c9
  clear c9
  obtain rfl := Option.some.inj H
  go_enter Tryd.func38, Tryd.ntmps38
  go_wp2_with (first | ((with_reducible refine gate_callee (f := 47) rfl ?_); refine goesL_ (some 8) rfl rfl Tryd.func47 (by kernel_rfl) rfl #[.int .i64 a0] rfl aO ?_; (with_reducible refine (cmp_isNaN_int64.calls a0 false _ A3.out).mono ?_); rintro e w' ⟨rfl, ⟨nd, rfl⟩⟩; refine ⟨_, rfl, ?_⟩) | ((with_reducible refine gate_callee (f := 47) rfl ?_); refine goesL_ (some 10) rfl rfl Tryd.func47 (by kernel_rfl) rfl #[.int .i64 a1] rfl aO ?_; (with_reducible refine (cmp_isNaN_int64.calls a1 false _ A4.out).mono ?_); rintro e w' ⟨rfl, ⟨nd, rfl⟩⟩; refine ⟨_, rfl, ?_⟩))
  go_ret
  exact ⟨by first | rfl | (simp; done) | (simp [*]; done), by repeat (first | exact Drawn0.refl _ | apply Drawn0.step)⟩
 rw [if_neg c9] at H
 have c9b0 : decide (a1 < a0) = false := decide_eq_false c9
 clear c9
 obtain rfl := Option.some.inj H
 go_enter Tryd.func38, Tryd.ntmps38
 go_wp2_with (first | ((with_reducible refine gate_callee (f := 47) rfl ?_); refine goesL_ (some 8) rfl rfl Tryd.func47 (by kernel_rfl) rfl #[.int .i64 a0] rfl aO ?_; (with_reducible refine (cmp_isNaN_int64.calls a0 false _ A3.out).mono ?_); rintro e w' ⟨rfl, ⟨nd, rfl⟩⟩; refine ⟨_, rfl, ?_⟩) | ((with_reducible refine gate_callee (f := 47) rfl ?_); refine goesL_ (some 10) rfl rfl Tryd.func47 (by kernel_rfl) rfl #[.int .i64 a1] rfl aO ?_; (with_reducible refine (cmp_isNaN_int64.calls a1 false _ A4.out).mono ?_); rintro e w' ⟨rfl, ⟨nd, rfl⟩⟩; refine ⟨_, rfl, ?_⟩))
 go_ret
 exact ⟨by first | rfl | (simp; done) | (simp [*]; done), by repeat (first | exact Drawn0.refl _ | apply Drawn0.step)⟩

/-! ### cmp_isNaN_uint64: function 48 -/
def cmp_isNaN_uint64.f (a0 : Int) : Option (Bool) := some (a0 != a0)
set_option maxHeartbeats 8000000 in
set_option maxRecDepth 100000 in
theorem cmp_isNaN_uint64.calls (a0 : Int) (r : Bool) (w : World) (h : cmp_isNaN_uint64.f a0 = some r) :
  Calls Tryd.prog 48 #[.int .u64 a0] w fun e w' => e = .returned (.bool r) ∧ Drawn0 w w' := by
 have H : (some (a0 != a0)) = some r := h
 clear h
 obtain rfl := Option.some.inj H
 go_enter Tryd.func48, Tryd.ntmps48
 go_wp2
 go_ret
 exact ⟨by first | rfl | (simp; done) | (simp [*]; done), by repeat (first | exact Drawn0.refl _ | apply Drawn0.step)⟩

/-! ### cmp_Compare_uint64: function 39 -/
def cmp_Compare_uint64.f (a0 : Int) (a1 : Int) : Option (Int) := (cmp_isNaN_uint64.f a0).bind fun t226 => ((cmp_isNaN_uint64.f a1).bind fun t227 => (if t226 = true then (if t227 = true then (some 0) else (some (-1))) else (if t227 = true then (some 1) else (if a0 < a1 then (some (-1)) else (if a0 > a1 then (some 1) else (some 0))))))
set_option maxHeartbeats 8000000 in
set_option maxRecDepth 100000 in
theorem cmp_Compare_uint64.calls (a0 : Int) (a1 : Int) (r : Int) (w : World) (h : cmp_Compare_uint64.f a0 a1 = some r) :
  Calls Tryd.prog 39 #[.int .u64 a0, .int .u64 a1] w fun e w' => e = .returned (.int .i64 r) ∧ Drawn0 w w' := by
 have H : ((cmp_isNaN_uint64.f a0).bind fun t226 => ((cmp_isNaN_uint64.f a1).bind fun t227 => (if t226 = true then (if t227 = true then (some 0) else (some (-1))) else (if t227 = true then (some 1) else (if a0 < a1 then (some (-1)) else (if a0 > a1 then (some 1) else (some 0))))))) = some r := h
 clear h
 replace H := bM H
 obtain ⟨t226, A30, H⟩ := H
 replace H : ((cmp_isNaN_uint64.f a1).bind fun t227 => (if t226 = true then (if t227 = true then (some 0) else (some (-1))) else (if t227 = true then (some 1) else (if a0 < a1 then (some (-1)) else (if a0 > a1 then (some 1) else (some 0)))))) = some r := H
 have A3 := Aside0.mk A30
 clear A30
 replace H := bM H
 obtain ⟨t227, A40, H⟩ := H
 replace H : (if t226 = true then (if t227 = true then (some 0) else (some (-1))) else (if t227 = true then (some 1) else (if a0 < a1 then (some (-1)) else (if a0 > a1 then (some 1) else (some 0))))) = some r := H
 have A4 := Aside0.mk A40
 clear A40
 by_cases c5 : t226 = true
 ·subst c5
  have H1 : (if t227 = true then (some 0) else (some (-1))) = some r := by rw [if_pos rfl] at H; exact H
  clear H
  have H := H1
  clear H1
  by_cases c6 : t227 = true
  ·subst c6
   have H1 : (some 0) = some r := by rw [if_pos rfl] at H; exact H
   clear H
   have H := H1
   clear H1
   obtain rfl := Option.some.inj H
   go_enter Tryd.func39, Tryd.ntmps39
   go_wp2_with (first | ((with_reducible refine gate_callee (f := 48) rfl ?_); refine goesL_ (some 8) rfl rfl Tryd.func48 (by kernel_rfl) rfl #[.int .u64 a0] rfl aO ?_; (with_reducible refine (cmp_isNaN_uint64.calls a0 true _ A3.out).mono ?_); rintro e w' ⟨rfl, ⟨nd, rfl⟩⟩; refine ⟨_, rfl, ?_⟩) | ((with_reducible refine gate_callee (f := 48) rfl ?_); refine goesL_ (some 10) rfl rfl Tryd.func48 (by kernel_rfl) rfl #[.int .u64 a1] rfl aO ?_; (with_reducible refine (cmp_isNaN_uint64.calls a1 true _ A4.out).mono ?_); rintro e w' ⟨rfl, ⟨nd, rfl⟩⟩; refine ⟨_, rfl, ?_⟩))
   go_ret
   exact ⟨by first | rfl | (simp; done) | (simp [*]; done), by repeat (first | exact Drawn0.refl _ | apply Drawn0.step)⟩
  replace c6 := Bool.eq_false_iff.mpr c6
  subst c6
  have H1 : (some (-1)) = some r := by rw [if_neg (show ¬ (false = true) by decide)] at H; exact H
  clear H
  have H := H1
  clear H1
  obtain rfl := Option.some.inj H
  go_enter Tryd.func39, Tryd.ntmps39
  go_wp2_with (first | ((with_reducible refine gate_callee (f := 48) rfl ?_); refine goesL_ (some 8) rfl rfl Tryd.func48 (by kernel_rfl) rfl #[.int .u64 a0] rfl aO ?_; (with_reducible refine (cmp_isNaN_uint64.calls a0 true _ A3.out).mono ?_); rintro e w' ⟨rfl, ⟨nd, rfl⟩⟩; refine ⟨_, rfl, ?_⟩) | ((with_reducible refine gate_callee (f := 48) rfl ?_); refine goesL_ (some 10) rfl rfl Tryd.func48 (by kernel_rfl) rfl #[.int .u64 a1] rfl aO ?_; (with_reducible refine (cmp_isNaN_uint64.calls a1 false _ A4.out).mono ?_); rintro e w' ⟨rfl, ⟨nd, rfl⟩⟩; refine ⟨_, rfl, ?_⟩))
  go_ret
  exact ⟨by first | rfl | (simp; done) | (simp [*]; done), by repeat (first | exact Drawn0.refl _ | apply Drawn0.step)⟩
 replace c5 := Bool.eq_false_iff.mpr c5
 subst c5
 have H1 : (if t227 = true then (some 1) else (if a0 < a1 then (some (-1)) else (if a0 > a1 then (some 1) else (some 0)))) = some r := by rw [if_neg (show ¬ (false = true) by decide)] at H; exact H
 clear H
 have H := H1
 clear H1
 by_cases c7 : t227 = true
 ·subst c7
  have H1 : (some 1) = some r := by rw [if_pos rfl] at H; exact H
  clear H
  have H := H1
  clear H1
  obtain rfl := Option.some.inj H
  go_enter Tryd.func39, Tryd.ntmps39
  go_wp2_with (first | ((with_reducible refine gate_callee (f := 48) rfl ?_); refine goesL_ (some 8) rfl rfl Tryd.func48 (by kernel_rfl) rfl #[.int .u64 a0] rfl aO ?_; (with_reducible refine (cmp_isNaN_uint64.calls a0 false _ A3.out).mono ?_); rintro e w' ⟨rfl, ⟨nd, rfl⟩⟩; refine ⟨_, rfl, ?_⟩) | ((with_reducible refine gate_callee (f := 48) rfl ?_); refine goesL_ (some 10) rfl rfl Tryd.func48 (by kernel_rfl) rfl #[.int .u64 a1] rfl aO ?_; (with_reducible refine (cmp_isNaN_uint64.calls a1 true _ A4.out).mono ?_); rintro e w' ⟨rfl, ⟨nd, rfl⟩⟩; refine ⟨_, rfl, ?_⟩))
  go_ret
  exact ⟨by first | rfl | (simp; done) | (simp [*]; done), by repeat (first | exact Drawn0.refl _ | apply Drawn0.step)⟩
 replace c7 := Bool.eq_false_iff.mpr c7
 subst c7
 have H1 : (if a0 < a1 then (some (-1)) else (if a0 > a1 then (some 1) else (some 0))) = some r := by rw [if_neg (show ¬ (false = true) by decide)] at H; exact H
 clear H
 have H := H1
 clear H1
 by_cases c8 : a0 < a1
 ·rw [if_pos c8] at H
  have c8b0 : decide (a0 < a1) = true := decide_eq_true c8
  clear c8
  obtain rfl := Option.some.inj H
  go_enter Tryd.func39, Tryd.ntmps39
  go_wp2_with (first | ((with_reducible refine gate_callee (f := 48) rfl ?_); refine goesL_ (some 8) rfl rfl Tryd.func48 (by kernel_rfl) rfl #[.int .u64 a0] rfl aO ?_; (with_reducible refine (cmp_isNaN_uint64.calls a0 false _ A3.out).mono ?_); rintro e w' ⟨rfl, ⟨nd, rfl⟩⟩; refine ⟨_, rfl, ?_⟩) | ((with_reducible refine gate_callee (f := 48) rfl ?_); refine goesL_ (some 10) rfl rfl Tryd.func48 (by kernel_rfl) rfl #[.int .u64 a1] rfl aO ?_; (with_reducible refine (cmp_isNaN_uint64.calls a1 false _ A4.out).mono ?_); rintro e w' ⟨rfl, ⟨nd, rfl⟩⟩; refine ⟨_, rfl, ?_⟩))
  go_ret
  exact ⟨by first | rfl | (simp; done) | (simp [*]; done), by repeat (first | exact Drawn0.refl _ | apply Drawn0.step)⟩
 rw [if_neg c8] at H
 have c8b0 : decide (a0 < a1) = false := decide_eq_false c8
 clear c8
 by_cases c9 : a0 > a1
 ·rw [if_pos c9] at H
  have c9b0 : decide (a1 < a0) = true := decide_eq_true c9
  clear c9
  obtain rfl := Option.some.inj H
  go_enter Tryd.func39, Tryd.ntmps39
  go_wp2_with (first | ((with_reducible refine gate_callee (f := 48) rfl ?_); refine goesL_ (some 8) rfl rfl Tryd.func48 (by kernel_rfl) rfl #[.int .u64 a0] rfl aO ?_; (with_reducible refine (cmp_isNaN_uint64.calls a0 false _ A3.out).mono ?_); rintro e w' ⟨rfl, ⟨nd, rfl⟩⟩; refine ⟨_, rfl, ?_⟩) | ((with_reducible refine gate_callee (f := 48) rfl ?_); refine goesL_ (some 10) rfl rfl Tryd.func48 (by kernel_rfl) rfl #[.int .u64 a1] rfl aO ?_; (with_reducible refine (cmp_isNaN_uint64.calls a1 false _ A4.out).mono ?_); rintro e w' ⟨rfl, ⟨nd, rfl⟩⟩; refine ⟨_, rfl, ?_⟩))
  go_ret
  exact ⟨by first | rfl | (simp; done) | (simp [*]; done), by repeat (first | exact Drawn0.refl _ | apply Drawn0.step)⟩
 rw [if_neg c9] at H
 have c9b0 : decide (a1 < a0) = false := decide_eq_false c9
 clear c9
 obtain rfl := Option.some.inj H
 go_enter Tryd.func39, Tryd.ntmps39
 go_wp2_with (first | ((with_reducible refine gate_callee (f := 48) rfl ?_); refine goesL_ (some 8) rfl rfl Tryd.func48 (by kernel_rfl) rfl #[.int .u64 a0] rfl aO ?_; (with_reducible refine (cmp_isNaN_uint64.calls a0 false _ A3.out).mono ?_); rintro e w' ⟨rfl, ⟨nd, rfl⟩⟩; refine ⟨_, rfl, ?_⟩) | ((with_reducible refine gate_callee (f := 48) rfl ?_); refine goesL_ (some 10) rfl rfl Tryd.func48 (by kernel_rfl) rfl #[.int .u64 a1] rfl aO ?_; (with_reducible refine (cmp_isNaN_uint64.calls a1 false _ A4.out).mono ?_); rintro e w' ⟨rfl, ⟨nd, rfl⟩⟩; refine ⟨_, rfl, ?_⟩))
 go_ret
 exact ⟨by first | rfl | (simp; done) | (simp [*]; done), by repeat (first | exact Drawn0.refl _ | apply Drawn0.step)⟩

/-! ### strings_Compare: function 40, by hand -/
def strings_Compare.f (a0 : ByteArray) (a1 : ByteArray) : Option (Int) := some (Lib.compareBytes a0.data.toList a1.data.toList)
theorem strings_Compare.calls (a0 : ByteArray) (a1 : ByteArray) (r : Int) (w : World) (h : strings_Compare.f a0 a1 = some r) :
  Calls Tryd.prog 40 #[.string a0, .string a1] w fun e w' => e = .returned (.int .i64 r) ∧ Drawn0 w w' := by
 obtain rfl := Option.some.inj h
 exact (Tryd.strings_Compare a0 a1 w).mono fun e w' ⟨he, hw⟩ => ⟨he, hw ▸ Drawn0.refl _⟩


/-! ### col_Compare: function 17 -/
def col_Compare.f (k : Nat) (a0_0 : Int) (a0_1 : Int) (a0_2 : Int) (a0_3 : ByteArray) (a1_0 : Int) (a1_1 : Int) (a1_2 : Int) (a1_3 : ByteArray) : Option (Int) := (cmp_Compare_int.f a0_0 a1_0).bind fun t230 => ((cmp_Compare_int64.f a0_1 a1_1).bind fun t231 => ((cmp_Compare_uint64.f a0_2 a1_2).bind fun t232 => ((strings_Compare.f a0_3 a1_3).bind fun t233 => ((cmp_Or_int.f k (([t230, t231, t232, t233] : List Int))).bind fun t237 => (some t237)))))
theorem col_Compare.mono : ∀ a0 a1 a2 a3 a4 a5 a6 a7 k, LeO (col_Compare.f k a0 a1 a2 a3 a4 a5 a6 a7) (col_Compare.f (k + 1) a0 a1 a2 a3 a4 a5 a6 a7) := by
 intro a0 a1 a2 a3 a4 a5 a6 a7 k
 unfold col_Compare.f
 repeat' first
   | (with_reducible exact cmp_Or_int.mono _ _)
   | (with_reducible exact LeO.refl _)
   | (with_reducible exact LeO.none _)
   | (with_reducible refine LeO.ite ?_ ?_)
   | (with_reducible refine LeO.bind ?_ (fun _ => ?_))
   | exact cmp_Or_int.mono _ _
   | exact LeO.none _
   | refine LeO.ite ?_ ?_
   | refine LeO.bind ?_ (fun _ => ?_)
def col_Compare.T1 : Bool × List (List Nat × List Nat) := (true, [([], []), ([0], [0]), ([], []), ([2], [2]), ([1, 3], [1, 3]), ([], []), ([5], [5]), ([], []), ([7], [7]), ([6, 8, 4], [6, 8]), ([], []), ([10], [10]), ([], []), ([12], [12]), ([11, 13, 9], [11, 13]), ([], []), ([15], [15]), ([], []), ([17], [17]), ([16, 18, 14], [16, 18]), ([4, 9, 14, 19], [4, 9, 14, 19]), ([20, 19], [20]), ([21, 21, 0, 1, 2, 3, 4, 5, 6, 7, 8, 9, 10, 11, 12, 13, 14, 15, 16, 17, 18, 19, 20, 21], [21])])
def col_Compare.B1 : List Nat := [0, 1, 0, 4, 15, 0, 32, 0, 128, 511, 0, 1024, 0, 4096, 16383, 0, 32768, 0, 131072, 524287, 1048575, 2097151, 4194303]
theorem col_Compare.tab1 : rtab .any (opsOf Tryd.f17 1) = col_Compare.T1 := by kernel_rfl
theorem col_Compare.bits1 : waitsOk col_Compare.T1.2 col_Compare.B1 = true := by kernel_rfl
set_option maxHeartbeats 8000000 in
set_option maxRecDepth 100000 in
theorem col_Compare.calls (k : Nat) (a0_0 : Int) (a0_1 : Int) (a0_2 : Int) (a0_3 : ByteArray) (a1_0 : Int) (a1_1 : Int) (a1_2 : Int) (a1_3 : ByteArray) (r : Int) (w : World) (h : col_Compare.f k a0_0 a0_1 a0_2 a0_3 a1_0 a1_1 a1_2 a1_3 = some r) :
  Calls Tryd.prog 17 #[.agg #[.int .i64 a0_0, .int .i64 a0_1, .int .u64 a0_2, .string a0_3], .agg #[.int .i64 a1_0, .int .i64 a1_1, .int .u64 a1_2, .string a1_3]] w fun e w' => e = .returned (.int .i64 r) ∧ Below w.heap.size w w' := by
 have hu24 := Tryd.underlying24
 have HB := as_ (Below.refl w.heap.size w)
 have H : ((cmp_Compare_int.f a0_0 a1_0).bind fun t230 => ((cmp_Compare_int64.f a0_1 a1_1).bind fun t231 => ((cmp_Compare_uint64.f a0_2 a1_2).bind fun t232 => ((strings_Compare.f a0_3 a1_3).bind fun t233 => ((cmp_Or_int.f k (([t230, t231, t232, t233] : List Int))).bind fun t237 => (some t237)))))) = some r := h
 clear h
 replace H := bM H
 obtain ⟨t230, A30, H⟩ := H
 replace H : ((cmp_Compare_int64.f a0_1 a1_1).bind fun t231 => ((cmp_Compare_uint64.f a0_2 a1_2).bind fun t232 => ((strings_Compare.f a0_3 a1_3).bind fun t233 => ((cmp_Or_int.f k (([t230, t231, t232, t233] : List Int))).bind fun t237 => (some t237))))) = some r := H
 have A3 := Aside0.mk A30
 clear A30
 replace H := bM H
 obtain ⟨t231, A40, H⟩ := H
 replace H : ((cmp_Compare_uint64.f a0_2 a1_2).bind fun t232 => ((strings_Compare.f a0_3 a1_3).bind fun t233 => ((cmp_Or_int.f k (([t230, t231, t232, t233] : List Int))).bind fun t237 => (some t237)))) = some r := H
 have A4 := Aside0.mk A40
 clear A40
 replace H := bM H
 obtain ⟨t232, A50, H⟩ := H
 replace H : ((strings_Compare.f a0_3 a1_3).bind fun t233 => ((cmp_Or_int.f k (([t230, t231, t232, t233] : List Int))).bind fun t237 => (some t237))) = some r := H
 have A5 := Aside0.mk A50
 clear A50
 replace H := bM H
 obtain ⟨t233, A60, H⟩ := H
 replace H : ((cmp_Or_int.f k (([t230, t231, t232, t233] : List Int))).bind fun t237 => (some t237)) = some r := H
 have A6 := Aside0.mk A60
 clear A60
 obtain ⟨y234, hy234⟩ : ∃ y_ : List Int, y_ = (([t230, t231, t232, t233] : List Int)) := ⟨_, rfl⟩
 replace H : ((cmp_Or_int.f k y234).bind fun t237 => (some t237)) = some r := by first | (rw [hy234]; with_reducible exact H) | (have H2_ := (Option.bind_some _ _).symm.trans H; rw [hy234]; with_reducible exact H2_) | (have H2_ := (Option.bind_some _ _).symm.trans H; with_reducible exact H2_) | with_reducible exact H | (rw [hy234]; exact H) | exact H
 have Ny234 := Aside0.mk hy234
 clear hy234
 replace H := bM H
 obtain ⟨t237, A70, H⟩ := H
 replace H : (some t237) = some r := H
 have A7 := Aside0.mk A70
 clear A70
 obtain rfl := Option.some.inj H
 go_enter Tryd.func17, Tryd.ntmps17
 try go_wp2_with (first | ((with_reducible refine gate_dst (N := 2) rfl ?_); refine box_event (by rfl) (N := 2) (by rfl) (cs := #[.int .i64 a0_0, .int .i64 a0_1, .int .u64 a0_2, .string a0_3]) (t := 24) gS ?_; intro gb228 hg w8 hbox hb; have BK228 := as_ (hbox); have GW228 := gw hg bA; have GE228 := gw hg bA; replace HB := as_ (below_step bA hb); clear hb hbox hg) | ((with_reducible refine gate_dst (N := 3) rfl ?_); refine box_event (by rfl) (N := 3) (by rfl) (cs := #[.int .i64 a1_0, .int .i64 a1_1, .int .u64 a1_2, .string a1_3]) (t := 24) gS ?_; intro gb229 hg w9 hbox hb; have BK229 := as_ (hbox); have GW229 := gw hg bA; have GE229 := gw hg bA; have NB228_229 := nl BK228 hg; have NB229_228 := ng BK228 hg; replace BK228 := bb BK228 hb; replace HB := as_ (below_step bA hb); clear hb hbox hg))
 replace BK228 := as_ (blk_drew BK228.out)
 replace BK229 := as_ (blk_drew BK229.out)
 replace HB := as_ (below_drew1 HB.out)
 refine start_ (n := 23) (S := fun w' => w'.cell? ⟨gb228, 0, none⟩ = some (.int .i64 a0_0) ∧ w'.cell? ⟨gb228, 1, none⟩ = some (.int .i64 a0_1) ∧ w'.cell? ⟨gb228, 2, none⟩ = some (.int .u64 a0_2) ∧ w'.cell? ⟨gb228, 3, none⟩ = some (.string a0_3) ∧ w'.cell? ⟨gb229, 0, none⟩ = some (.int .i64 a1_0) ∧ w'.cell? ⟨gb229, 1, none⟩ = some (.int .i64 a1_1) ∧ w'.cell? ⟨gb229, 2, none⟩ = some (.int .u64 a1_2) ∧ w'.cell? ⟨gb229, 3, none⟩ = some (.string a1_3)) (ds := []) #[ff, ff, ff, ff, ff, ff, ff, ff, ff, ff, ff, ff, ff, ff, ff, ff, ff, ff, ff, ff, ff, ff, ff] (by kernel_rfl) rfl rfl ⟨(blk_cell BK228.out 0).trans rfl, (blk_cell BK228.out 1).trans rfl, (blk_cell BK228.out 2).trans rfl, (blk_cell BK228.out 3).trans rfl, (blk_cell BK229.out 0).trans rfl, (blk_cell BK229.out 1).trans rfl, (blk_cell BK229.out 2).trans rfl, (blk_cell BK229.out 3).trans rfl⟩ (fun hHeld => ?_); refine with_tabW col_Compare.tab1 col_Compare.bits1 (fun HT_ HW_ => ?_)
 generalize w9.drew = w10 at BK228 BK229 HB hHeld ⊢
 refine pure_ (i := 0) (N := some 5) (v := ?_) (a' := ?_) #[tt, ff, ff, ff, ff, ff, ff, ff, ff, ff, ff, ff, ff, ff, ff, ff, ff, ff, ff, ff, ff, ff, ff] rfl rfl (any_of HT_.out (by kernel_rfl)) (fun _ _ _ h => h) (Or.inl ⟨by rfl, ?_⟩) ?_ ?_
 rotate_left
 ·intro w'
  go_simp
  with_reducible rfl
 rotate_left
 ·exact aP
 refine pure_ (i := 2) (N := some 7) (v := ?_) (a' := ?_) #[tt, ff, tt, ff, ff, ff, ff, ff, ff, ff, ff, ff, ff, ff, ff, ff, ff, ff, ff, ff, ff, ff, ff] rfl rfl (any_of HT_.out (by kernel_rfl)) (fun _ _ _ h => h) (Or.inl ⟨by rfl, ?_⟩) ?_ ?_
 rotate_left
 ·intro w'
  go_simp
  with_reducible rfl
 rotate_left
 ·exact aP
 refine pure_ (i := 5) (N := some 10) (v := ?_) (a' := ?_) #[tt, ff, tt, ff, ff, tt, ff, ff, ff, ff, ff, ff, ff, ff, ff, ff, ff, ff, ff, ff, ff, ff, ff] rfl rfl (any_of HT_.out (by kernel_rfl)) (fun _ _ _ h => h) (Or.inl ⟨by rfl, ?_⟩) ?_ ?_
 rotate_left
 ·intro w'
  go_simp
  with_reducible rfl
 rotate_left
 ·exact aP
 refine pure_ (i := 7) (N := some 12) (v := ?_) (a' := ?_) #[tt, ff, tt, ff, ff, tt, ff, tt, ff, ff, ff, ff, ff, ff, ff, ff, ff, ff, ff, ff, ff, ff, ff] rfl rfl (any_of HT_.out (by kernel_rfl)) (fun _ _ _ h => h) (Or.inl ⟨by rfl, ?_⟩) ?_ ?_
 rotate_left
 ·intro w'
  go_simp
  with_reducible rfl
 rotate_left
 ·exact aP
 refine pure_ (i := 10) (N := some 15) (v := ?_) (a' := ?_) #[tt, ff, tt, ff, ff, tt, ff, tt, ff, ff, tt, ff, ff, ff, ff, ff, ff, ff, ff, ff, ff, ff, ff] rfl rfl (any_of HT_.out (by kernel_rfl)) (fun _ _ _ h => h) (Or.inl ⟨by rfl, ?_⟩) ?_ ?_
 rotate_left
 ·intro w'
  go_simp
  with_reducible rfl
 rotate_left
 ·exact aP
 refine pure_ (i := 12) (N := some 17) (v := ?_) (a' := ?_) #[tt, ff, tt, ff, ff, tt, ff, tt, ff, ff, tt, ff, tt, ff, ff, ff, ff, ff, ff, ff, ff, ff, ff] rfl rfl (any_of HT_.out (by kernel_rfl)) (fun _ _ _ h => h) (Or.inl ⟨by rfl, ?_⟩) ?_ ?_
 rotate_left
 ·intro w'
  go_simp
  with_reducible rfl
 rotate_left
 ·exact aP
 refine pure_ (i := 15) (N := some 20) (v := ?_) (a' := ?_) #[tt, ff, tt, ff, ff, tt, ff, tt, ff, ff, tt, ff, tt, ff, ff, tt, ff, ff, ff, ff, ff, ff, ff] rfl rfl (any_of HT_.out (by kernel_rfl)) (fun _ _ _ h => h) (Or.inl ⟨by rfl, ?_⟩) ?_ ?_
 rotate_left
 ·intro w'
  go_simp
  with_reducible rfl
 rotate_left
 ·exact aP
 refine pure_ (i := 17) (N := some 22) (v := ?_) (a' := ?_) #[tt, ff, tt, ff, ff, tt, ff, tt, ff, ff, tt, ff, tt, ff, ff, tt, ff, tt, ff, ff, ff, ff, ff] rfl rfl (any_of HT_.out (by kernel_rfl)) (fun _ _ _ h => h) (Or.inl ⟨by rfl, ?_⟩) ?_ ?_
 rotate_left
 ·intro w'
  go_simp
  with_reducible rfl
 rotate_left
 ·exact aP
 refine take_ (i := 1) (N := some 6) (v := ?_) (a' := ?_) #[tt, tt, tt, ff, ff, tt, ff, tt, ff, ff, tt, ff, tt, ff, ff, tt, ff, tt, ff, ff, ff, ff, ff] rfl rfl (take_ofW HT_.out HW_.out (by kernel_rfl)) (fun _ _ _ h => h) (Or.inl ⟨by rfl, ?_⟩) hHeld ?_ ?_
 rotate_left
 ·rintro w' ⟨s0, s1, s2, s3, s4, s5, s6, s7⟩
  go_simp
  with_reducible rfl
 rotate_left
 ·exact aP
 refine take_ (i := 3) (N := some 8) (v := ?_) (a' := ?_) #[tt, tt, tt, tt, ff, tt, ff, tt, ff, ff, tt, ff, tt, ff, ff, tt, ff, tt, ff, ff, ff, ff, ff] rfl rfl (take_ofW HT_.out HW_.out (by kernel_rfl)) (fun _ _ _ h => h) (Or.inl ⟨by rfl, ?_⟩) hHeld ?_ ?_
 rotate_left
 ·rintro w' ⟨s0, s1, s2, s3, s4, s5, s6, s7⟩
  go_simp
  with_reducible rfl
 rotate_left
 ·exact aP
 refine take_ (i := 6) (N := some 11) (v := ?_) (a' := ?_) #[tt, tt, tt, tt, ff, tt, tt, tt, ff, ff, tt, ff, tt, ff, ff, tt, ff, tt, ff, ff, ff, ff, ff] rfl rfl (take_ofW HT_.out HW_.out (by kernel_rfl)) (fun _ _ _ h => h) (Or.inl ⟨by rfl, ?_⟩) hHeld ?_ ?_
 rotate_left
 ·rintro w' ⟨s0, s1, s2, s3, s4, s5, s6, s7⟩
  go_simp
  with_reducible rfl
 rotate_left
 ·exact aP
 refine take_ (i := 8) (N := some 13) (v := ?_) (a' := ?_) #[tt, tt, tt, tt, ff, tt, tt, tt, tt, ff, tt, ff, tt, ff, ff, tt, ff, tt, ff, ff, ff, ff, ff] rfl rfl (take_ofW HT_.out HW_.out (by kernel_rfl)) (fun _ _ _ h => h) (Or.inl ⟨by rfl, ?_⟩) hHeld ?_ ?_
 rotate_left
 ·rintro w' ⟨s0, s1, s2, s3, s4, s5, s6, s7⟩
  go_simp
  with_reducible rfl
 rotate_left
 ·exact aP
 refine take_ (i := 11) (N := some 16) (v := ?_) (a' := ?_) #[tt, tt, tt, tt, ff, tt, tt, tt, tt, ff, tt, tt, tt, ff, ff, tt, ff, tt, ff, ff, ff, ff, ff] rfl rfl (take_ofW HT_.out HW_.out (by kernel_rfl)) (fun _ _ _ h => h) (Or.inl ⟨by rfl, ?_⟩) hHeld ?_ ?_
 rotate_left
 ·rintro w' ⟨s0, s1, s2, s3, s4, s5, s6, s7⟩
  go_simp
  with_reducible rfl
 rotate_left
 ·exact aP
 refine take_ (i := 13) (N := some 18) (v := ?_) (a' := ?_) #[tt, tt, tt, tt, ff, tt, tt, tt, tt, ff, tt, tt, tt, tt, ff, tt, ff, tt, ff, ff, ff, ff, ff] rfl rfl (take_ofW HT_.out HW_.out (by kernel_rfl)) (fun _ _ _ h => h) (Or.inl ⟨by rfl, ?_⟩) hHeld ?_ ?_
 rotate_left
 ·rintro w' ⟨s0, s1, s2, s3, s4, s5, s6, s7⟩
  go_simp
  with_reducible rfl
 rotate_left
 ·exact aP
 refine take_ (i := 16) (N := some 21) (v := ?_) (a' := ?_) #[tt, tt, tt, tt, ff, tt, tt, tt, tt, ff, tt, tt, tt, tt, ff, tt, tt, tt, ff, ff, ff, ff, ff] rfl rfl (take_ofW HT_.out HW_.out (by kernel_rfl)) (fun _ _ _ h => h) (Or.inl ⟨by rfl, ?_⟩) hHeld ?_ ?_
 rotate_left
 ·rintro w' ⟨s0, s1, s2, s3, s4, s5, s6, s7⟩
  go_simp
  with_reducible rfl
 rotate_left
 ·exact aP
 refine take_ (i := 18) (N := some 23) (v := ?_) (a' := ?_) #[tt, tt, tt, tt, ff, tt, tt, tt, tt, ff, tt, tt, tt, tt, ff, tt, tt, tt, tt, ff, ff, ff, ff] rfl rfl (take_ofW HT_.out HW_.out (by kernel_rfl)) (fun _ _ _ h => h) (Or.inl ⟨by rfl, ?_⟩) hHeld ?_ ?_
 rotate_left
 ·rintro w' ⟨s0, s1, s2, s3, s4, s5, s6, s7⟩
  go_simp
  with_reducible rfl
 rotate_left
 ·exact aP
 refine one_ (i := 4) (N := some 9) #[tt, tt, tt, tt, tt, tt, tt, tt, tt, ff, tt, tt, tt, tt, ff, tt, tt, tt, tt, ff, ff, ff, ff] rfl rfl (one_of HT_.out (by kernel_rfl)) (by decide) (fun K hK => ?_)
 refine goes_ Tryd.func37 (by kernel_rfl) rfl #[.int .i64 a0_0, .int .i64 a1_0] (by rfl) rfl rfl aO ?_
 with_reducible refine (cmp_Compare_int.calls a0_0 a1_0 t230 _ A3.out).mono ?_
 rintro e w' ⟨rfl, ⟨nd, rfl⟩⟩
 refine ⟨_, rfl, ?_⟩
 refine hK.out _ _ ⟨(blk_cell BK228.out 0).trans rfl, (blk_cell BK228.out 1).trans rfl, (blk_cell BK228.out 2).trans rfl, (blk_cell BK228.out 3).trans rfl, (blk_cell BK229.out 0).trans rfl, (blk_cell BK229.out 1).trans rfl, (blk_cell BK229.out 2).trans rfl, (blk_cell BK229.out 3).trans rfl⟩ (fun hHeld => ?_)
 clear hK K
 refine norm_ (a' := ?_) ?_ ?_
 rotate_left
 ·show Act.put _ (some 9) _ = _
  simp only [Act.put, List.setIfInBounds_toArray, List.set_cons_zero, List.set_cons_succ, i64_w, i32_w]
  rfl
 refine one_ (i := 9) (N := some 14) #[tt, tt, tt, tt, tt, tt, tt, tt, tt, tt, tt, tt, tt, tt, ff, tt, tt, tt, tt, ff, ff, ff, ff] rfl rfl (one_of HT_.out (by kernel_rfl)) (by decide) (fun K hK => ?_)
 refine goes_ Tryd.func38 (by kernel_rfl) rfl #[.int .i64 a0_1, .int .i64 a1_1] (by rfl) rfl rfl aO ?_
 with_reducible refine (cmp_Compare_int64.calls a0_1 a1_1 t231 _ A4.out).mono ?_
 rintro e w' ⟨rfl, ⟨nd, rfl⟩⟩
 refine ⟨_, rfl, ?_⟩
 refine hK.out _ _ ⟨(blk_cell BK228.out 0).trans rfl, (blk_cell BK228.out 1).trans rfl, (blk_cell BK228.out 2).trans rfl, (blk_cell BK228.out 3).trans rfl, (blk_cell BK229.out 0).trans rfl, (blk_cell BK229.out 1).trans rfl, (blk_cell BK229.out 2).trans rfl, (blk_cell BK229.out 3).trans rfl⟩ (fun hHeld => ?_)
 clear hK K
 refine norm_ (a' := ?_) ?_ ?_
 rotate_left
 ·show Act.put _ (some 14) _ = _
  simp only [Act.put, List.setIfInBounds_toArray, List.set_cons_zero, List.set_cons_succ, i64_w, i32_w]
  rfl
 refine one_ (i := 14) (N := some 19) #[tt, tt, tt, tt, tt, tt, tt, tt, tt, tt, tt, tt, tt, tt, tt, tt, tt, tt, tt, ff, ff, ff, ff] rfl rfl (one_of HT_.out (by kernel_rfl)) (by decide) (fun K hK => ?_)
 refine goes_ Tryd.func39 (by kernel_rfl) rfl #[.int .u64 a0_2, .int .u64 a1_2] (by rfl) rfl rfl aO ?_
 with_reducible refine (cmp_Compare_uint64.calls a0_2 a1_2 t232 _ A5.out).mono ?_
 rintro e w' ⟨rfl, ⟨nd, rfl⟩⟩
 refine ⟨_, rfl, ?_⟩
 refine hK.out _ _ ⟨(blk_cell BK228.out 0).trans rfl, (blk_cell BK228.out 1).trans rfl, (blk_cell BK228.out 2).trans rfl, (blk_cell BK228.out 3).trans rfl, (blk_cell BK229.out 0).trans rfl, (blk_cell BK229.out 1).trans rfl, (blk_cell BK229.out 2).trans rfl, (blk_cell BK229.out 3).trans rfl⟩ (fun hHeld => ?_)
 clear hK K
 refine norm_ (a' := ?_) ?_ ?_
 rotate_left
 ·show Act.put _ (some 19) _ = _
  simp only [Act.put, List.setIfInBounds_toArray, List.set_cons_zero, List.set_cons_succ, i64_w, i32_w]
  rfl
 refine one_ (i := 19) (N := some 24) #[tt, tt, tt, tt, tt, tt, tt, tt, tt, tt, tt, tt, tt, tt, tt, tt, tt, tt, tt, tt, ff, ff, ff] rfl rfl (one_of HT_.out (by kernel_rfl)) (by decide) (fun K hK => ?_)
 refine goes_ Tryd.func40 (by kernel_rfl) rfl #[.string a0_3, .string a1_3] (by rfl) rfl rfl aO ?_
 with_reducible refine (strings_Compare.calls a0_3 a1_3 t233 _ A6.out).mono ?_
 rintro e w' ⟨rfl, ⟨nd, rfl⟩⟩
 refine ⟨_, rfl, ?_⟩
 refine hK.out _ _ ⟨(blk_cell BK228.out 0).trans rfl, (blk_cell BK228.out 1).trans rfl, (blk_cell BK228.out 2).trans rfl, (blk_cell BK228.out 3).trans rfl, (blk_cell BK229.out 0).trans rfl, (blk_cell BK229.out 1).trans rfl, (blk_cell BK229.out 2).trans rfl, (blk_cell BK229.out 3).trans rfl⟩ (fun hHeld => ?_)
 clear hK K
 refine norm_ (a' := ?_) ?_ ?_
 rotate_left
 ·show Act.put _ (some 24) _ = _
  simp only [Act.put, List.setIfInBounds_toArray, List.set_cons_zero, List.set_cons_succ, i64_w, i32_w]
  rfl
 refine one_ (i := 20) (N := some 25) #[tt, tt, tt, tt, tt, tt, tt, tt, tt, tt, tt, tt, tt, tt, tt, tt, tt, tt, tt, tt, tt, ff, ff] rfl rfl (one_of HT_.out (by kernel_rfl)) (by decide) (fun K hK => ?_)
 refine Kd.R_lit_step (Kd.int .i64) _ 3 ?hg (N := 25) ?hd (xs := ([t230, t231, t232, t233] : List Int)) (inner := [.int .i64 t230, .int .i64 t231, .int .i64 t232, .int .i64 t233]) (ok := fun _ => True) (okp := fun _ => True) ?hr ?hp (fun _ hk => hk) trivial (Below.refl _ _) (Nat.le_refl _) (by simp) ?_; (case hd => rfl); (case hg => rfl); (case hr => first | (go_simp; done) | (go_simp; rfl)); (case hp => exact (Reps.one (show Kd.M (Kd.int .i64) _ _ _ t230 [.int .i64 t230] from rfl) (Reps.one (show Kd.M (Kd.int .i64) _ _ _ t231 [.int .i64 t231] from rfl) (Reps.one (show Kd.M (Kd.int .i64) _ _ _ t232 [.int .i64 t232] from rfl) (Reps.one (show Kd.M (Kd.int .i64) _ _ _ t233 [.int .i64 t233] from rfl) (Reps.none _ _))))))
 intro v235 w11 ho12 hb hg_ hnew_
 clear hg_ hnew_
 (first | rw [← Ny234.out] at ho12 | (simp only [Int.reduceToNat] at ho12; rw [← Ny234.out] at ho12))
 have HO236 := as_ (Kd.R_lower ho12 (below_size bA))
 replace BK228 := bb BK228 hb
 replace BK229 := bb BK229 hb
 replace HB := as_ (below_step bA hb)
 clear hb ho12
 obtain ⟨Ao13, co13, eo13⟩ := Kd.R_slice HO236.out
 (first | subst eo13 | (injection eo13 with f1_ f2_ f3_; have f4_ := f1_.symm; have f5_ := f3_.symm; clear f1_ f2_ f3_; subst f4_; subst f5_))
 refine hK.out _ _ ⟨(blk_cell BK228.out 0).trans rfl, (blk_cell BK228.out 1).trans rfl, (blk_cell BK228.out 2).trans rfl, (blk_cell BK228.out 3).trans rfl, (blk_cell BK229.out 0).trans rfl, (blk_cell BK229.out 1).trans rfl, (blk_cell BK229.out 2).trans rfl, (blk_cell BK229.out 3).trans rfl⟩ (fun hHeld => ?_)
 clear hK K
 refine norm_ (a' := ?_) ?_ ?_
 rotate_left
 ·show Act.put _ (some 25) _ = _
  simp only [Act.put, List.setIfInBounds_toArray, List.set_cons_zero, List.set_cons_succ, i64_w, i32_w]
  rfl
 refine one_ (i := 21) (N := some 26) #[tt, tt, tt, tt, tt, tt, tt, tt, tt, tt, tt, tt, tt, tt, tt, tt, tt, tt, tt, tt, tt, tt, ff] rfl rfl (one_of HT_.out (by kernel_rfl)) (by decide) (fun K hK => ?_)
 refine goes_ Tryd.func36 (by kernel_rfl) rfl #[.slice Ao13 y234.length co13] (by rfl) rfl rfl aO ?_
 with_reducible refine (cmp_Or_int.calls k _ _ y234 t237 _ ?side1 ?side2 A7.out).mono ?_
 (case side1 => repeat (first | exact (Kd.R_reads' HO236.out).2.2 | (with_reducible refine Kd.C_alloc ?_ _) | (with_reducible refine Kd.C_drewN ?_ _) | (with_reducible refine Kd.C_drew ?_)))
 (case side2 => exact (Kd.R_reads' HO236.out).2.1)
 rintro e w' ⟨rfl, ⟨nd, rfl⟩⟩
 refine ⟨_, rfl, ?_⟩
 refine hK.out _ _ ⟨(blk_cell BK228.out 0).trans rfl, (blk_cell BK228.out 1).trans rfl, (blk_cell BK228.out 2).trans rfl, (blk_cell BK228.out 3).trans rfl, (blk_cell BK229.out 0).trans rfl, (blk_cell BK229.out 1).trans rfl, (blk_cell BK229.out 2).trans rfl, (blk_cell BK229.out 3).trans rfl⟩ (fun hHeld => ?_)
 clear hK K
 refine norm_ (a' := ?_) ?_ ?_
 rotate_left
 ·show Act.put _ (some 26) _ = _
  simp only [Act.put, List.setIfInBounds_toArray, List.set_cons_zero, List.set_cons_succ, i64_w, i32_w]
  rfl
 refine pure_ (i := 22) (N := some 4) (v := ?_) (a' := ?_) #[tt, tt, tt, tt, tt, tt, tt, tt, tt, tt, tt, tt, tt, tt, tt, tt, tt, tt, tt, tt, tt, tt, tt] rfl rfl (any_of HT_.out (by kernel_rfl)) (fun _ _ _ h => h) (Or.inl ⟨by rfl, ?_⟩) ?_ ?_
 rotate_left
 ·intro w'
  go_simp
  with_reducible rfl
 rotate_left
 ·exact aP
 refine done_ (done_of HT_.out (by kernel_rfl)) ?_
 try go_wp2
 go_ret
 exact ⟨eW, by repeat (first | (with_reducible first | exact HB.out | apply below_alloc | apply pw_below_drewN | apply below_drew1 | refine below_set ?_ GE228.out | refine below_set ?_ GE229.out) | exact HB.out)⟩

/-! ### withyref03_sign: function 41 -/
def withyref03_sign.f (a0 : Bool) (a1 : Bool) : Option (Int) := if a0 = true then (some (-1)) else (if a1 = true then (some 1) else (some 0))
set_option maxHeartbeats 8000000 in
set_option maxRecDepth 100000 in
theorem withyref03_sign.calls (a0 : Bool) (a1 : Bool) (r : Int) (w : World) (h : withyref03_sign.f a0 a1 = some r) :
  Calls Tryd.prog 41 #[.bool a0, .bool a1] w fun e w' => e = .returned (.int .i64 r) ∧ Drawn0 w w' := by
 have H : (if a0 = true then (some (-1)) else (if a1 = true then (some 1) else (some 0))) = some r := h
 clear h
 by_cases c3 : a0 = true
 ·subst c3
  have H1 : (some (-1)) = some r := by rw [if_pos rfl] at H; exact H
  clear H
  have H := H1
  clear H1
  obtain rfl := Option.some.inj H
  go_enter Tryd.func41, Tryd.ntmps41
  go_wp2
  go_ret
  exact ⟨by first | rfl | (simp; done) | (simp [*]; done), by repeat (first | exact Drawn0.refl _ | apply Drawn0.step)⟩
 replace c3 := Bool.eq_false_iff.mpr c3
 subst c3
 have H1 : (if a1 = true then (some 1) else (some 0)) = some r := by rw [if_neg (show ¬ (false = true) by decide)] at H; exact H
 clear H
 have H := H1
 clear H1
 by_cases c4 : a1 = true
 ·subst c4
  have H1 : (some 1) = some r := by rw [if_pos rfl] at H; exact H
  clear H
  have H := H1
  clear H1
  obtain rfl := Option.some.inj H
  go_enter Tryd.func41, Tryd.ntmps41
  go_wp2
  go_ret
  exact ⟨by first | rfl | (simp; done) | (simp [*]; done), by repeat (first | exact Drawn0.refl _ | apply Drawn0.step)⟩
 replace c4 := Bool.eq_false_iff.mpr c4
 subst c4
 have H1 : (some 0) = some r := by rw [if_neg (show ¬ (false = true) by decide)] at H; exact H
 clear H
 have H := H1
 clear H1
 obtain rfl := Option.some.inj H
 go_enter Tryd.func41, Tryd.ntmps41
 go_wp2
 go_ret
 exact ⟨by first | rfl | (simp; done) | (simp [*]; done), by repeat (first | exact Drawn0.refl _ | apply Drawn0.step)⟩

/-! ### withyref03_Compare: function 18 -/
def withyref03_Compare.f (a0_0 : Int) (a0_1 : Int) (a0_2 : Int) (a0_3 : ByteArray) (a1_0 : Int) (a1_1 : Int) (a1_2 : Int) (a1_3 : ByteArray) : Option (Int) := if a0_0 = a1_0 then (if a0_0 = 2 then ((withyref03_sign.f (decide (a0_1 < a1_1)) (decide (a0_1 > a1_1))).bind fun t241 => (some t241)) else (if a0_0 = 4 then ((withyref03_sign.f (Op.bytesLess a0_3.toList a1_3.toList) (Op.bytesLess a1_3.toList a0_3.toList)).bind fun t242 => (some t242)) else ((withyref03_sign.f (decide (a0_2 < a1_2)) (decide (a0_2 > a1_2))).bind fun t243 => (some t243)))) else ((withyref03_sign.f (decide (a0_0 < a1_0)) true).bind fun t240 => (some t240))
set_option maxHeartbeats 8000000 in
set_option maxRecDepth 100000 in
theorem withyref03_Compare.calls (a0_0 : Int) (a0_1 : Int) (a0_2 : Int) (a0_3 : ByteArray) (a1_0 : Int) (a1_1 : Int) (a1_2 : Int) (a1_3 : ByteArray) (r : Int) (w : World) (h : withyref03_Compare.f a0_0 a0_1 a0_2 a0_3 a1_0 a1_1 a1_2 a1_3 = some r) :
  Calls Tryd.prog 18 #[.agg #[.int .i64 a0_0, .int .i64 a0_1, .int .u64 a0_2, .string a0_3], .agg #[.int .i64 a1_0, .int .i64 a1_1, .int .u64 a1_2, .string a1_3]] w fun e w' => e = .returned (.int .i64 r) ∧ Below w.heap.size w w' := by
 have hu32 := Tryd.underlying32
 have HB := as_ (Below.refl w.heap.size w)
 have H : (if a0_0 = a1_0 then (if a0_0 = 2 then ((withyref03_sign.f (decide (a0_1 < a1_1)) (decide (a0_1 > a1_1))).bind fun t241 => (some t241)) else (if a0_0 = 4 then ((withyref03_sign.f (Op.bytesLess a0_3.toList a1_3.toList) (Op.bytesLess a1_3.toList a0_3.toList)).bind fun t242 => (some t242)) else ((withyref03_sign.f (decide (a0_2 < a1_2)) (decide (a0_2 > a1_2))).bind fun t243 => (some t243)))) else ((withyref03_sign.f (decide (a0_0 < a1_0)) true).bind fun t240 => (some t240))) = some r := h
 clear h
 by_cases c3 : a0_0 = a1_0
 rotate_left
 ·rw [if_neg c3] at H
  have c3b0 : (a0_0 == a1_0) = false := beq_eq_false_iff_ne.mpr c3
  have c3b1 : (a0_0 != a1_0) = true := bne_iff_ne.mpr c3
  replace H := bM H
  obtain ⟨t240, A240, H⟩ := H
  replace H : (some t240) = some r := H
  have A24 := Aside0.mk A240
  clear A240
  obtain rfl := Option.some.inj H
  go_enter Tryd.func18, Tryd.ntmps18
  go_wp2_with (first | ((with_reducible refine gate_dst (N := 2) rfl ?_); refine box_event (by rfl) (N := 2) (by rfl) (cs := #[.int .i64 a0_0, .int .i64 a0_1, .int .u64 a0_2, .string a0_3]) (t := 32) gS ?_; intro gb238 hg w25 hbox hb; have BK238 := as_ (hbox); have GW238 := gw hg bA; have GE238 := gw hg bA; replace HB := as_ (below_step bA hb); clear hb hbox hg) | ((with_reducible refine gate_dst (N := 3) rfl ?_); refine box_event (by rfl) (N := 3) (by rfl) (cs := #[.int .i64 a1_0, .int .i64 a1_1, .int .u64 a1_2, .string a1_3]) (t := 32) gS ?_; intro gb239 hg w26 hbox hb; have BK239 := as_ (hbox); have GW239 := gw hg bA; have GE239 := gw hg bA; have NB238_239 := nl BK238 hg; have NB239_238 := ng BK238 hg; replace BK238 := bb BK238 hb; replace HB := as_ (below_step bA hb); clear hb hbox hg; have hnb27 := NB238_239.out; have hnc27 := NB239_238.out; obtain ⟨hcz28_0, hcz28_1, hcz28_2, hcz28_3⟩ := zc4 BK238; obtain ⟨hfz28_0, hfz28_1, hfz28_2, hfz28_3⟩ := zf4 BK238; obtain ⟨hcz29_0, hcz29_1, hcz29_2, hcz29_3⟩ := zc4 BK239; obtain ⟨hfz29_0, hfz29_1, hfz29_2, hfz29_3⟩ := zf4 BK239) | ((with_reducible refine gate_callee (f := 41) rfl ?_); refine goesL_ (some 15) rfl rfl Tryd.func41 (by kernel_rfl) rfl #[.bool (decide (a0_0 < a1_0)), .bool true] rfl aO ?_; (with_reducible refine (withyref03_sign.calls (decide (a0_0 < a1_0)) true t240 _ A24.out).mono ?_); rintro e w' ⟨rfl, ⟨nd, rfl⟩⟩; refine ⟨_, rfl, ?_⟩))
  go_ret
  exact ⟨eW, by repeat (first | (with_reducible first | exact HB.out | apply below_alloc | apply pw_below_drewN | apply below_drew1 | refine below_set ?_ GE238.out | refine below_set ?_ GE239.out) | exact HB.out)⟩
 
 rw [if_pos c3] at H
 have c3b0 : (a0_0 == a1_0) = true := beq_iff_eq.mpr c3
 have c3b1 : (a0_0 != a1_0) = false := bne_eq_false_iff_eq.mpr c3
 clear c3
 by_cases c4 : a0_0 = 2
 ·rw [if_pos c4] at H
  have c4b0 : (a0_0 == 2) = true := beq_iff_eq.mpr c4
  have c4b1 : (a0_0 != 2) = false := bne_eq_false_iff_eq.mpr c4
  clear c4
  replace H := bM H
  obtain ⟨t241, A50, H⟩ := H
  replace H : (some t241) = some r := H
  have A5 := Aside0.mk A50
  clear A50
  obtain rfl := Option.some.inj H
  go_enter Tryd.func18, Tryd.ntmps18
  go_wp2_with (first | ((with_reducible refine gate_dst (N := 2) rfl ?_); refine box_event (by rfl) (N := 2) (by rfl) (cs := #[.int .i64 a0_0, .int .i64 a0_1, .int .u64 a0_2, .string a0_3]) (t := 32) gS ?_; intro gb238 hg w6 hbox hb; have BK238 := as_ (hbox); have GW238 := gw hg bA; have GE238 := gw hg bA; replace HB := as_ (below_step bA hb); clear hb hbox hg) | ((with_reducible refine gate_dst (N := 3) rfl ?_); refine box_event (by rfl) (N := 3) (by rfl) (cs := #[.int .i64 a1_0, .int .i64 a1_1, .int .u64 a1_2, .string a1_3]) (t := 32) gS ?_; intro gb239 hg w7 hbox hb; have BK239 := as_ (hbox); have GW239 := gw hg bA; have GE239 := gw hg bA; have NB238_239 := nl BK238 hg; have NB239_238 := ng BK238 hg; replace BK238 := bb BK238 hb; replace HB := as_ (below_step bA hb); clear hb hbox hg; have hnb8 := NB238_239.out; have hnc8 := NB239_238.out; obtain ⟨hcz9_0, hcz9_1, hcz9_2, hcz9_3⟩ := zc4 BK238; obtain ⟨hfz9_0, hfz9_1, hfz9_2, hfz9_3⟩ := zf4 BK238; obtain ⟨hcz10_0, hcz10_1, hcz10_2, hcz10_3⟩ := zc4 BK239; obtain ⟨hfz10_0, hfz10_1, hfz10_2, hfz10_3⟩ := zf4 BK239) | ((with_reducible refine gate_callee (f := 41) rfl ?_); refine goesL_ (some 29) rfl rfl Tryd.func41 (by kernel_rfl) rfl #[.bool (decide (a0_1 < a1_1)), .bool (decide (a0_1 > a1_1))] rfl aO ?_; (with_reducible refine (withyref03_sign.calls (decide (a0_1 < a1_1)) (decide (a0_1 > a1_1)) t241 _ A5.out).mono ?_); rintro e w' ⟨rfl, ⟨nd, rfl⟩⟩; refine ⟨_, rfl, ?_⟩))
  go_ret
  exact ⟨eW, by repeat (first | (with_reducible first | exact HB.out | apply below_alloc | apply pw_below_drewN | apply below_drew1 | refine below_set ?_ GE238.out | refine below_set ?_ GE239.out) | exact HB.out)⟩
 rw [if_neg c4] at H
 have c4b0 : (a0_0 == 2) = false := beq_eq_false_iff_ne.mpr c4
 have c4b1 : (a0_0 != 2) = true := bne_iff_ne.mpr c4
 by_cases c11 : a0_0 = 4
 rotate_left
 ·rw [if_neg c11] at H
  have c11b0 : (a0_0 == 4) = false := beq_eq_false_iff_ne.mpr c11
  have c11b1 : (a0_0 != 4) = true := bne_iff_ne.mpr c11
  replace H := bM H
  obtain ⟨t243, A180, H⟩ := H
  replace H : (some t243) = some r := H
  have A18 := Aside0.mk A180
  clear A180
  obtain rfl := Option.some.inj H
  go_enter Tryd.func18, Tryd.ntmps18
  go_wp2_with (first | ((with_reducible refine gate_dst (N := 2) rfl ?_); refine box_event (by rfl) (N := 2) (by rfl) (cs := #[.int .i64 a0_0, .int .i64 a0_1, .int .u64 a0_2, .string a0_3]) (t := 32) gS ?_; intro gb238 hg w19 hbox hb; have BK238 := as_ (hbox); have GW238 := gw hg bA; have GE238 := gw hg bA; replace HB := as_ (below_step bA hb); clear hb hbox hg) | ((with_reducible refine gate_dst (N := 3) rfl ?_); refine box_event (by rfl) (N := 3) (by rfl) (cs := #[.int .i64 a1_0, .int .i64 a1_1, .int .u64 a1_2, .string a1_3]) (t := 32) gS ?_; intro gb239 hg w20 hbox hb; have BK239 := as_ (hbox); have GW239 := gw hg bA; have GE239 := gw hg bA; have NB238_239 := nl BK238 hg; have NB239_238 := ng BK238 hg; replace BK238 := bb BK238 hb; replace HB := as_ (below_step bA hb); clear hb hbox hg; have hnb21 := NB238_239.out; have hnc21 := NB239_238.out; obtain ⟨hcz22_0, hcz22_1, hcz22_2, hcz22_3⟩ := zc4 BK238; obtain ⟨hfz22_0, hfz22_1, hfz22_2, hfz22_3⟩ := zf4 BK238; obtain ⟨hcz23_0, hcz23_1, hcz23_2, hcz23_3⟩ := zc4 BK239; obtain ⟨hfz23_0, hfz23_1, hfz23_2, hfz23_3⟩ := zf4 BK239) | ((with_reducible refine gate_callee (f := 41) rfl ?_); refine goesL_ (some 54) rfl rfl Tryd.func41 (by kernel_rfl) rfl #[.bool (decide (a0_2 < a1_2)), .bool (decide (a0_2 > a1_2))] rfl aO ?_; (with_reducible refine (withyref03_sign.calls (decide (a0_2 < a1_2)) (decide (a0_2 > a1_2)) t243 _ A18.out).mono ?_); rintro e w' ⟨rfl, ⟨nd, rfl⟩⟩; refine ⟨_, rfl, ?_⟩))
  go_ret
  exact ⟨eW, by repeat (first | (with_reducible first | exact HB.out | apply below_alloc | apply pw_below_drewN | apply below_drew1 | refine below_set ?_ GE238.out | refine below_set ?_ GE239.out) | exact HB.out)⟩
 rw [if_pos c11] at H
 have c11b0 : (a0_0 == 4) = true := beq_iff_eq.mpr c11
 have c11b1 : (a0_0 != 4) = false := bne_eq_false_iff_eq.mpr c11
 clear c11
 replace H := bM H
 obtain ⟨t242, A120, H⟩ := H
 replace H : (some t242) = some r := H
 have A12 := Aside0.mk A120
 clear A120
 obtain rfl := Option.some.inj H
 go_enter Tryd.func18, Tryd.ntmps18
 go_wp2_with (first | ((with_reducible refine gate_dst (N := 2) rfl ?_); refine box_event (by rfl) (N := 2) (by rfl) (cs := #[.int .i64 a0_0, .int .i64 a0_1, .int .u64 a0_2, .string a0_3]) (t := 32) gS ?_; intro gb238 hg w13 hbox hb; have BK238 := as_ (hbox); have GW238 := gw hg bA; have GE238 := gw hg bA; replace HB := as_ (below_step bA hb); clear hb hbox hg) | ((with_reducible refine gate_dst (N := 3) rfl ?_); refine box_event (by rfl) (N := 3) (by rfl) (cs := #[.int .i64 a1_0, .int .i64 a1_1, .int .u64 a1_2, .string a1_3]) (t := 32) gS ?_; intro gb239 hg w14 hbox hb; have BK239 := as_ (hbox); have GW239 := gw hg bA; have GE239 := gw hg bA; have NB238_239 := nl BK238 hg; have NB239_238 := ng BK238 hg; replace BK238 := bb BK238 hb; replace HB := as_ (below_step bA hb); clear hb hbox hg; have hnb15 := NB238_239.out; have hnc15 := NB239_238.out; obtain ⟨hcz16_0, hcz16_1, hcz16_2, hcz16_3⟩ := zc4 BK238; obtain ⟨hfz16_0, hfz16_1, hfz16_2, hfz16_3⟩ := zf4 BK238; obtain ⟨hcz17_0, hcz17_1, hcz17_2, hcz17_3⟩ := zc4 BK239; obtain ⟨hfz17_0, hfz17_1, hfz17_2, hfz17_3⟩ := zf4 BK239) | ((with_reducible refine gate_callee (f := 41) rfl ?_); refine goesL_ (some 43) rfl rfl Tryd.func41 (by kernel_rfl) rfl #[.bool (Op.bytesLess a0_3.toList a1_3.toList), .bool (Op.bytesLess a1_3.toList a0_3.toList)] rfl aO ?_; (with_reducible refine (withyref03_sign.calls (Op.bytesLess a0_3.toList a1_3.toList) (Op.bytesLess a1_3.toList a0_3.toList) t242 _ A12.out).mono ?_); rintro e w' ⟨rfl, ⟨nd, rfl⟩⟩; refine ⟨_, rfl, ?_⟩))
 go_ret
 exact ⟨eW, by repeat (first | (with_reducible first | exact HB.out | apply below_alloc | apply pw_below_drewN | apply below_drew1 | refine below_set ?_ GE238.out | refine below_set ?_ GE239.out) | exact HB.out)⟩
/-! ### withylaw03_fixed: function 19 -/
def withylaw03_fixed.f (k : Nat)  : Option (Bool) := (col_Put.f k 2 (-1) 0 (⟨#[]⟩ : ByteArray)).bind fun bt244 => ((col_Put.f k 4 0 0 (⟨#[0, 97]⟩ : ByteArray)).bind fun bt246 => ((col_Put.f k 0 0 0 (⟨#[]⟩ : ByteArray)).bind fun bt248 => ((col_Put.f k 1 0 1 (⟨#[]⟩ : ByteArray)).bind fun bt250 => ((col_Put.f k 1 0 2 (⟨#[]⟩ : ByteArray)).bind fun bt252 => ((col_Get.f k (⟨#[122, 80, 0, 255, 97, 0, 1, 121]⟩ : ByteArray) 1).bind fun bt254 => ((col_Get.f k (⟨#[80, 97]⟩ : ByteArray) 0).bind fun bt261 => ((col_Get.f k (⟨#[80, 0, 2]⟩ : ByteArray) 0).bind fun bt268 => ((col_Get.f k (⟨#[17]⟩ : ByteArray) 0).bind fun bt275 => ((col_Get.f k (⟨#[64, 241, 0]⟩ : ByteArray) 0).bind fun bt282 => ((col_Get.f k (⟨#[97]⟩ : ByteArray) 2).bind fun bt289 => (if bt244.1.toList = ([48, 127, 255, 255, 255, 255, 255, 255, 255] : List UInt8) then (if bt244.2 = 0 then (if bt246.1.toList = ([80, 0, 255, 97, 0, 1] : List UInt8) then (if bt246.2 = 0 then (if bt248.1.toList = ([16] : List UInt8) then (if bt248.2 = 0 then (if bt250.1.toList = ([33] : List UInt8) then (if bt250.2 = 0 then (if bt252.2 = 3 then (if (bt254.1 == 4 && (bt254.2.1 == 0 && (bt254.2.2.1 == 0 && (bt254.2.2.2.1.toList == ([0, 97] : List UInt8))))) = true then (if bt254.2.2.2.2.1 = 7 then (if bt254.2.2.2.2.2 = 0 then (if bt261.2.2.2.2.2 = 7 then (if bt268.2.2.2.2.2 = 3 then (if bt275.2.2.2.2.2 = 3 then (if bt282.2.2.2.2.2 = 3 then (if bt289.2.2.2.2.2 = 4 then ((col_Compare.f k 2 (-1) 0 (⟨#[]⟩ : ByteArray) 2 0 0 (⟨#[]⟩ : ByteArray)).bind fun t296 => (if t296 = (-1) then ((col_Compare.f k 4 0 0 (⟨#[]⟩ : ByteArray) 3 0 9 (⟨#[]⟩ : ByteArray)).bind fun t297 => (if t297 = 1 then ((col_Right.f k 3 0 9 (⟨#[]⟩ : ByteArray)).bind fun t298 => (if t298 = true then ((col_Right.f k 3 9 0 (⟨#[]⟩ : ByteArray)).bind fun t299 => (if t299 = true then (none) else (some true))) else (none))) else (none))) else (none))) else (none)) else (none)) else (none)) else (none)) else (none)) else (none)) else (none)) else (none)) else (none)) else (none)) else (none)) else (none)) else (none)) else (none)) else (none)) else (none)) else (none))))))))))))
theorem withylaw03_fixed.mono : ∀ k, LeO (withylaw03_fixed.f k ) (withylaw03_fixed.f (k + 1) ) := by
 intro  k
 unfold withylaw03_fixed.f
 repeat' first
   | (with_reducible exact col_Compare.mono _ _ _ _ _ _ _ _ _)
   | (with_reducible exact col_Get.mono _ _ _)
   | (with_reducible exact col_Put.mono _ _ _ _ _)
   | (with_reducible exact col_Right.mono _ _ _ _ _)
   | (with_reducible exact LeO.refl _)
   | (with_reducible exact LeO.none _)
   | (with_reducible refine LeO.ite ?_ ?_)
   | (with_reducible refine LeO.bind ?_ (fun _ => ?_))
   | exact col_Compare.mono _ _ _ _ _ _ _ _ _
   | exact col_Get.mono _ _ _
   | exact col_Put.mono _ _ _ _ _
   | exact col_Right.mono _ _ _ _ _
   | exact LeO.none _
   | refine LeO.ite ?_ ?_
   | refine LeO.bind ?_ (fun _ => ?_)
set_option maxHeartbeats 8000000 in
set_option maxRecDepth 100000 in
theorem withylaw03_fixed.calls (k : Nat)  (r : Bool) (w : World) (h : withylaw03_fixed.f k  = some r) :
  Calls Tryd.prog 19 #[] w fun e w' => e = .returned (.bool r) ∧ Below w.heap.size w w' := by
 have hu24 := Tryd.underlying24
 have HB := as_ (Below.refl w.heap.size w)
 have H : ((col_Put.f k 2 (-1) 0 (⟨#[]⟩ : ByteArray)).bind fun bt244 => ((col_Put.f k 4 0 0 (⟨#[0, 97]⟩ : ByteArray)).bind fun bt246 => ((col_Put.f k 0 0 0 (⟨#[]⟩ : ByteArray)).bind fun bt248 => ((col_Put.f k 1 0 1 (⟨#[]⟩ : ByteArray)).bind fun bt250 => ((col_Put.f k 1 0 2 (⟨#[]⟩ : ByteArray)).bind fun bt252 => ((col_Get.f k (⟨#[122, 80, 0, 255, 97, 0, 1, 121]⟩ : ByteArray) 1).bind fun bt254 => ((col_Get.f k (⟨#[80, 97]⟩ : ByteArray) 0).bind fun bt261 => ((col_Get.f k (⟨#[80, 0, 2]⟩ : ByteArray) 0).bind fun bt268 => ((col_Get.f k (⟨#[17]⟩ : ByteArray) 0).bind fun bt275 => ((col_Get.f k (⟨#[64, 241, 0]⟩ : ByteArray) 0).bind fun bt282 => ((col_Get.f k (⟨#[97]⟩ : ByteArray) 2).bind fun bt289 => (if bt244.1.toList = ([48, 127, 255, 255, 255, 255, 255, 255, 255] : List UInt8) then (if bt244.2 = 0 then (if bt246.1.toList = ([80, 0, 255, 97, 0, 1] : List UInt8) then (if bt246.2 = 0 then (if bt248.1.toList = ([16] : List UInt8) then (if bt248.2 = 0 then (if bt250.1.toList = ([33] : List UInt8) then (if bt250.2 = 0 then (if bt252.2 = 3 then (if (bt254.1 == 4 && (bt254.2.1 == 0 && (bt254.2.2.1 == 0 && (bt254.2.2.2.1.toList == ([0, 97] : List UInt8))))) = true then (if bt254.2.2.2.2.1 = 7 then (if bt254.2.2.2.2.2 = 0 then (if bt261.2.2.2.2.2 = 7 then (if bt268.2.2.2.2.2 = 3 then (if bt275.2.2.2.2.2 = 3 then (if bt282.2.2.2.2.2 = 3 then (if bt289.2.2.2.2.2 = 4 then ((col_Compare.f k 2 (-1) 0 (⟨#[]⟩ : ByteArray) 2 0 0 (⟨#[]⟩ : ByteArray)).bind fun t296 => (if t296 = (-1) then ((col_Compare.f k 4 0 0 (⟨#[]⟩ : ByteArray) 3 0 9 (⟨#[]⟩ : ByteArray)).bind fun t297 => (if t297 = 1 then ((col_Right.f k 3 0 9 (⟨#[]⟩ : ByteArray)).bind fun t298 => (if t298 = true then ((col_Right.f k 3 9 0 (⟨#[]⟩ : ByteArray)).bind fun t299 => (if t299 = true then (none) else (some true))) else (none))) else (none))) else (none))) else (none)) else (none)) else (none)) else (none)) else (none)) else (none)) else (none)) else (none)) else (none)) else (none)) else (none)) else (none)) else (none)) else (none)) else (none)) else (none)) else (none))))))))))))) = some r := h
 clear h
 replace H := bM H
 obtain ⟨⟨t244, t245⟩, A10, H⟩ := H
 replace H : ((col_Put.f k 4 0 0 (⟨#[0, 97]⟩ : ByteArray)).bind fun bt246 => ((col_Put.f k 0 0 0 (⟨#[]⟩ : ByteArray)).bind fun bt248 => ((col_Put.f k 1 0 1 (⟨#[]⟩ : ByteArray)).bind fun bt250 => ((col_Put.f k 1 0 2 (⟨#[]⟩ : ByteArray)).bind fun bt252 => ((col_Get.f k (⟨#[122, 80, 0, 255, 97, 0, 1, 121]⟩ : ByteArray) 1).bind fun bt254 => ((col_Get.f k (⟨#[80, 97]⟩ : ByteArray) 0).bind fun bt261 => ((col_Get.f k (⟨#[80, 0, 2]⟩ : ByteArray) 0).bind fun bt268 => ((col_Get.f k (⟨#[17]⟩ : ByteArray) 0).bind fun bt275 => ((col_Get.f k (⟨#[64, 241, 0]⟩ : ByteArray) 0).bind fun bt282 => ((col_Get.f k (⟨#[97]⟩ : ByteArray) 2).bind fun bt289 => (if t244.toList = ([48, 127, 255, 255, 255, 255, 255, 255, 255] : List UInt8) then (if t245 = 0 then (if bt246.1.toList = ([80, 0, 255, 97, 0, 1] : List UInt8) then (if bt246.2 = 0 then (if bt248.1.toList = ([16] : List UInt8) then (if bt248.2 = 0 then (if bt250.1.toList = ([33] : List UInt8) then (if bt250.2 = 0 then (if bt252.2 = 3 then (if (bt254.1 == 4 && (bt254.2.1 == 0 && (bt254.2.2.1 == 0 && (bt254.2.2.2.1.toList == ([0, 97] : List UInt8))))) = true then (if bt254.2.2.2.2.1 = 7 then (if bt254.2.2.2.2.2 = 0 then (if bt261.2.2.2.2.2 = 7 then (if bt268.2.2.2.2.2 = 3 then (if bt275.2.2.2.2.2 = 3 then (if bt282.2.2.2.2.2 = 3 then (if bt289.2.2.2.2.2 = 4 then ((col_Compare.f k 2 (-1) 0 (⟨#[]⟩ : ByteArray) 2 0 0 (⟨#[]⟩ : ByteArray)).bind fun t296 => (if t296 = (-1) then ((col_Compare.f k 4 0 0 (⟨#[]⟩ : ByteArray) 3 0 9 (⟨#[]⟩ : ByteArray)).bind fun t297 => (if t297 = 1 then ((col_Right.f k 3 0 9 (⟨#[]⟩ : ByteArray)).bind fun t298 => (if t298 = true then ((col_Right.f k 3 9 0 (⟨#[]⟩ : ByteArray)).bind fun t299 => (if t299 = true then (none) else (some true))) else (none))) else (none))) else (none))) else (none)) else (none)) else (none)) else (none)) else (none)) else (none)) else (none)) else (none)) else (none)) else (none)) else (none)) else (none)) else (none)) else (none)) else (none)) else (none)) else (none)))))))))))) = some r := H
 have A1 := Aside0.mk A10
 clear A10
 replace H := bM H
 obtain ⟨⟨t246, t247⟩, A20, H⟩ := H
 replace H : ((col_Put.f k 0 0 0 (⟨#[]⟩ : ByteArray)).bind fun bt248 => ((col_Put.f k 1 0 1 (⟨#[]⟩ : ByteArray)).bind fun bt250 => ((col_Put.f k 1 0 2 (⟨#[]⟩ : ByteArray)).bind fun bt252 => ((col_Get.f k (⟨#[122, 80, 0, 255, 97, 0, 1, 121]⟩ : ByteArray) 1).bind fun bt254 => ((col_Get.f k (⟨#[80, 97]⟩ : ByteArray) 0).bind fun bt261 => ((col_Get.f k (⟨#[80, 0, 2]⟩ : ByteArray) 0).bind fun bt268 => ((col_Get.f k (⟨#[17]⟩ : ByteArray) 0).bind fun bt275 => ((col_Get.f k (⟨#[64, 241, 0]⟩ : ByteArray) 0).bind fun bt282 => ((col_Get.f k (⟨#[97]⟩ : ByteArray) 2).bind fun bt289 => (if t244.toList = ([48, 127, 255, 255, 255, 255, 255, 255, 255] : List UInt8) then (if t245 = 0 then (if t246.toList = ([80, 0, 255, 97, 0, 1] : List UInt8) then (if t247 = 0 then (if bt248.1.toList = ([16] : List UInt8) then (if bt248.2 = 0 then (if bt250.1.toList = ([33] : List UInt8) then (if bt250.2 = 0 then (if bt252.2 = 3 then (if (bt254.1 == 4 && (bt254.2.1 == 0 && (bt254.2.2.1 == 0 && (bt254.2.2.2.1.toList == ([0, 97] : List UInt8))))) = true then (if bt254.2.2.2.2.1 = 7 then (if bt254.2.2.2.2.2 = 0 then (if bt261.2.2.2.2.2 = 7 then (if bt268.2.2.2.2.2 = 3 then (if bt275.2.2.2.2.2 = 3 then (if bt282.2.2.2.2.2 = 3 then (if bt289.2.2.2.2.2 = 4 then ((col_Compare.f k 2 (-1) 0 (⟨#[]⟩ : ByteArray) 2 0 0 (⟨#[]⟩ : ByteArray)).bind fun t296 => (if t296 = (-1) then ((col_Compare.f k 4 0 0 (⟨#[]⟩ : ByteArray) 3 0 9 (⟨#[]⟩ : ByteArray)).bind fun t297 => (if t297 = 1 then ((col_Right.f k 3 0 9 (⟨#[]⟩ : ByteArray)).bind fun t298 => (if t298 = true then ((col_Right.f k 3 9 0 (⟨#[]⟩ : ByteArray)).bind fun t299 => (if t299 = true then (none) else (some true))) else (none))) else (none))) else (none))) else (none)) else (none)) else (none)) else (none)) else (none)) else (none)) else (none)) else (none)) else (none)) else (none)) else (none)) else (none)) else (none)) else (none)) else (none)) else (none)) else (none))))))))))) = some r := H
 have A2 := Aside0.mk A20
 clear A20
 replace H := bM H
 obtain ⟨⟨t248, t249⟩, A30, H⟩ := H
 replace H : ((col_Put.f k 1 0 1 (⟨#[]⟩ : ByteArray)).bind fun bt250 => ((col_Put.f k 1 0 2 (⟨#[]⟩ : ByteArray)).bind fun bt252 => ((col_Get.f k (⟨#[122, 80, 0, 255, 97, 0, 1, 121]⟩ : ByteArray) 1).bind fun bt254 => ((col_Get.f k (⟨#[80, 97]⟩ : ByteArray) 0).bind fun bt261 => ((col_Get.f k (⟨#[80, 0, 2]⟩ : ByteArray) 0).bind fun bt268 => ((col_Get.f k (⟨#[17]⟩ : ByteArray) 0).bind fun bt275 => ((col_Get.f k (⟨#[64, 241, 0]⟩ : ByteArray) 0).bind fun bt282 => ((col_Get.f k (⟨#[97]⟩ : ByteArray) 2).bind fun bt289 => (if t244.toList = ([48, 127, 255, 255, 255, 255, 255, 255, 255] : List UInt8) then (if t245 = 0 then (if t246.toList = ([80, 0, 255, 97, 0, 1] : List UInt8) then (if t247 = 0 then (if t248.toList = ([16] : List UInt8) then (if t249 = 0 then (if bt250.1.toList = ([33] : List UInt8) then (if bt250.2 = 0 then (if bt252.2 = 3 then (if (bt254.1 == 4 && (bt254.2.1 == 0 && (bt254.2.2.1 == 0 && (bt254.2.2.2.1.toList == ([0, 97] : List UInt8))))) = true then (if bt254.2.2.2.2.1 = 7 then (if bt254.2.2.2.2.2 = 0 then (if bt261.2.2.2.2.2 = 7 then (if bt268.2.2.2.2.2 = 3 then (if bt275.2.2.2.2.2 = 3 then (if bt282.2.2.2.2.2 = 3 then (if bt289.2.2.2.2.2 = 4 then ((col_Compare.f k 2 (-1) 0 (⟨#[]⟩ : ByteArray) 2 0 0 (⟨#[]⟩ : ByteArray)).bind fun t296 => (if t296 = (-1) then ((col_Compare.f k 4 0 0 (⟨#[]⟩ : ByteArray) 3 0 9 (⟨#[]⟩ : ByteArray)).bind fun t297 => (if t297 = 1 then ((col_Right.f k 3 0 9 (⟨#[]⟩ : ByteArray)).bind fun t298 => (if t298 = true then ((col_Right.f k 3 9 0 (⟨#[]⟩ : ByteArray)).bind fun t299 => (if t299 = true then (none) else (some true))) else (none))) else (none))) else (none))) else (none)) else (none)) else (none)) else (none)) else (none)) else (none)) else (none)) else (none)) else (none)) else (none)) else (none)) else (none)) else (none)) else (none)) else (none)) else (none)) else (none)))))))))) = some r := H
 have A3 := Aside0.mk A30
 clear A30
 replace H := bM H
 obtain ⟨⟨t250, t251⟩, A40, H⟩ := H
 replace H : ((col_Put.f k 1 0 2 (⟨#[]⟩ : ByteArray)).bind fun bt252 => ((col_Get.f k (⟨#[122, 80, 0, 255, 97, 0, 1, 121]⟩ : ByteArray) 1).bind fun bt254 => ((col_Get.f k (⟨#[80, 97]⟩ : ByteArray) 0).bind fun bt261 => ((col_Get.f k (⟨#[80, 0, 2]⟩ : ByteArray) 0).bind fun bt268 => ((col_Get.f k (⟨#[17]⟩ : ByteArray) 0).bind fun bt275 => ((col_Get.f k (⟨#[64, 241, 0]⟩ : ByteArray) 0).bind fun bt282 => ((col_Get.f k (⟨#[97]⟩ : ByteArray) 2).bind fun bt289 => (if t244.toList = ([48, 127, 255, 255, 255, 255, 255, 255, 255] : List UInt8) then (if t245 = 0 then (if t246.toList = ([80, 0, 255, 97, 0, 1] : List UInt8) then (if t247 = 0 then (if t248.toList = ([16] : List UInt8) then (if t249 = 0 then (if t250.toList = ([33] : List UInt8) then (if t251 = 0 then (if bt252.2 = 3 then (if (bt254.1 == 4 && (bt254.2.1 == 0 && (bt254.2.2.1 == 0 && (bt254.2.2.2.1.toList == ([0, 97] : List UInt8))))) = true then (if bt254.2.2.2.2.1 = 7 then (if bt254.2.2.2.2.2 = 0 then (if bt261.2.2.2.2.2 = 7 then (if bt268.2.2.2.2.2 = 3 then (if bt275.2.2.2.2.2 = 3 then (if bt282.2.2.2.2.2 = 3 then (if bt289.2.2.2.2.2 = 4 then ((col_Compare.f k 2 (-1) 0 (⟨#[]⟩ : ByteArray) 2 0 0 (⟨#[]⟩ : ByteArray)).bind fun t296 => (if t296 = (-1) then ((col_Compare.f k 4 0 0 (⟨#[]⟩ : ByteArray) 3 0 9 (⟨#[]⟩ : ByteArray)).bind fun t297 => (if t297 = 1 then ((col_Right.f k 3 0 9 (⟨#[]⟩ : ByteArray)).bind fun t298 => (if t298 = true then ((col_Right.f k 3 9 0 (⟨#[]⟩ : ByteArray)).bind fun t299 => (if t299 = true then (none) else (some true))) else (none))) else (none))) else (none))) else (none)) else (none)) else (none)) else (none)) else (none)) else (none)) else (none)) else (none)) else (none)) else (none)) else (none)) else (none)) else (none)) else (none)) else (none)) else (none)) else (none))))))))) = some r := H
 have A4 := Aside0.mk A40
 clear A40
 replace H := bM H
 obtain ⟨⟨t252, t253⟩, A50, H⟩ := H
 replace H : ((col_Get.f k (⟨#[122, 80, 0, 255, 97, 0, 1, 121]⟩ : ByteArray) 1).bind fun bt254 => ((col_Get.f k (⟨#[80, 97]⟩ : ByteArray) 0).bind fun bt261 => ((col_Get.f k (⟨#[80, 0, 2]⟩ : ByteArray) 0).bind fun bt268 => ((col_Get.f k (⟨#[17]⟩ : ByteArray) 0).bind fun bt275 => ((col_Get.f k (⟨#[64, 241, 0]⟩ : ByteArray) 0).bind fun bt282 => ((col_Get.f k (⟨#[97]⟩ : ByteArray) 2).bind fun bt289 => (if t244.toList = ([48, 127, 255, 255, 255, 255, 255, 255, 255] : List UInt8) then (if t245 = 0 then (if t246.toList = ([80, 0, 255, 97, 0, 1] : List UInt8) then (if t247 = 0 then (if t248.toList = ([16] : List UInt8) then (if t249 = 0 then (if t250.toList = ([33] : List UInt8) then (if t251 = 0 then (if t253 = 3 then (if (bt254.1 == 4 && (bt254.2.1 == 0 && (bt254.2.2.1 == 0 && (bt254.2.2.2.1.toList == ([0, 97] : List UInt8))))) = true then (if bt254.2.2.2.2.1 = 7 then (if bt254.2.2.2.2.2 = 0 then (if bt261.2.2.2.2.2 = 7 then (if bt268.2.2.2.2.2 = 3 then (if bt275.2.2.2.2.2 = 3 then (if bt282.2.2.2.2.2 = 3 then (if bt289.2.2.2.2.2 = 4 then ((col_Compare.f k 2 (-1) 0 (⟨#[]⟩ : ByteArray) 2 0 0 (⟨#[]⟩ : ByteArray)).bind fun t296 => (if t296 = (-1) then ((col_Compare.f k 4 0 0 (⟨#[]⟩ : ByteArray) 3 0 9 (⟨#[]⟩ : ByteArray)).bind fun t297 => (if t297 = 1 then ((col_Right.f k 3 0 9 (⟨#[]⟩ : ByteArray)).bind fun t298 => (if t298 = true then ((col_Right.f k 3 9 0 (⟨#[]⟩ : ByteArray)).bind fun t299 => (if t299 = true then (none) else (some true))) else (none))) else (none))) else (none))) else (none)) else (none)) else (none)) else (none)) else (none)) else (none)) else (none)) else (none)) else (none)) else (none)) else (none)) else (none)) else (none)) else (none)) else (none)) else (none)) else (none)))))))) = some r := H
 have A5 := Aside0.mk A50
 clear A50
 replace H := bM H
 obtain ⟨⟨t254, t255, t256, t257, t258, t259⟩, A60, H⟩ := H
 replace H : ((col_Get.f k (⟨#[80, 97]⟩ : ByteArray) 0).bind fun bt261 => ((col_Get.f k (⟨#[80, 0, 2]⟩ : ByteArray) 0).bind fun bt268 => ((col_Get.f k (⟨#[17]⟩ : ByteArray) 0).bind fun bt275 => ((col_Get.f k (⟨#[64, 241, 0]⟩ : ByteArray) 0).bind fun bt282 => ((col_Get.f k (⟨#[97]⟩ : ByteArray) 2).bind fun bt289 => (if t244.toList = ([48, 127, 255, 255, 255, 255, 255, 255, 255] : List UInt8) then (if t245 = 0 then (if t246.toList = ([80, 0, 255, 97, 0, 1] : List UInt8) then (if t247 = 0 then (if t248.toList = ([16] : List UInt8) then (if t249 = 0 then (if t250.toList = ([33] : List UInt8) then (if t251 = 0 then (if t253 = 3 then (if (t254 == 4 && (t255 == 0 && (t256 == 0 && (t257.toList == ([0, 97] : List UInt8))))) = true then (if t258 = 7 then (if t259 = 0 then (if bt261.2.2.2.2.2 = 7 then (if bt268.2.2.2.2.2 = 3 then (if bt275.2.2.2.2.2 = 3 then (if bt282.2.2.2.2.2 = 3 then (if bt289.2.2.2.2.2 = 4 then ((col_Compare.f k 2 (-1) 0 (⟨#[]⟩ : ByteArray) 2 0 0 (⟨#[]⟩ : ByteArray)).bind fun t296 => (if t296 = (-1) then ((col_Compare.f k 4 0 0 (⟨#[]⟩ : ByteArray) 3 0 9 (⟨#[]⟩ : ByteArray)).bind fun t297 => (if t297 = 1 then ((col_Right.f k 3 0 9 (⟨#[]⟩ : ByteArray)).bind fun t298 => (if t298 = true then ((col_Right.f k 3 9 0 (⟨#[]⟩ : ByteArray)).bind fun t299 => (if t299 = true then (none) else (some true))) else (none))) else (none))) else (none))) else (none)) else (none)) else (none)) else (none)) else (none)) else (none)) else (none)) else (none)) else (none)) else (none)) else (none)) else (none)) else (none)) else (none)) else (none)) else (none)) else (none))))))) = some r := H
 have A6 := Aside0.mk A60
 clear A60
 replace H := bM H
 obtain ⟨⟨t261, t262, t263, t264, t265, t266⟩, A70, H⟩ := H
 replace H : ((col_Get.f k (⟨#[80, 0, 2]⟩ : ByteArray) 0).bind fun bt268 => ((col_Get.f k (⟨#[17]⟩ : ByteArray) 0).bind fun bt275 => ((col_Get.f k (⟨#[64, 241, 0]⟩ : ByteArray) 0).bind fun bt282 => ((col_Get.f k (⟨#[97]⟩ : ByteArray) 2).bind fun bt289 => (if t244.toList = ([48, 127, 255, 255, 255, 255, 255, 255, 255] : List UInt8) then (if t245 = 0 then (if t246.toList = ([80, 0, 255, 97, 0, 1] : List UInt8) then (if t247 = 0 then (if t248.toList = ([16] : List UInt8) then (if t249 = 0 then (if t250.toList = ([33] : List UInt8) then (if t251 = 0 then (if t253 = 3 then (if (t254 == 4 && (t255 == 0 && (t256 == 0 && (t257.toList == ([0, 97] : List UInt8))))) = true then (if t258 = 7 then (if t259 = 0 then (if t266 = 7 then (if bt268.2.2.2.2.2 = 3 then (if bt275.2.2.2.2.2 = 3 then (if bt282.2.2.2.2.2 = 3 then (if bt289.2.2.2.2.2 = 4 then ((col_Compare.f k 2 (-1) 0 (⟨#[]⟩ : ByteArray) 2 0 0 (⟨#[]⟩ : ByteArray)).bind fun t296 => (if t296 = (-1) then ((col_Compare.f k 4 0 0 (⟨#[]⟩ : ByteArray) 3 0 9 (⟨#[]⟩ : ByteArray)).bind fun t297 => (if t297 = 1 then ((col_Right.f k 3 0 9 (⟨#[]⟩ : ByteArray)).bind fun t298 => (if t298 = true then ((col_Right.f k 3 9 0 (⟨#[]⟩ : ByteArray)).bind fun t299 => (if t299 = true then (none) else (some true))) else (none))) else (none))) else (none))) else (none)) else (none)) else (none)) else (none)) else (none)) else (none)) else (none)) else (none)) else (none)) else (none)) else (none)) else (none)) else (none)) else (none)) else (none)) else (none)) else (none)))))) = some r := H
 have A7 := Aside0.mk A70
 clear A70
 replace H := bM H
 obtain ⟨⟨t268, t269, t270, t271, t272, t273⟩, A80, H⟩ := H
 replace H : ((col_Get.f k (⟨#[17]⟩ : ByteArray) 0).bind fun bt275 => ((col_Get.f k (⟨#[64, 241, 0]⟩ : ByteArray) 0).bind fun bt282 => ((col_Get.f k (⟨#[97]⟩ : ByteArray) 2).bind fun bt289 => (if t244.toList = ([48, 127, 255, 255, 255, 255, 255, 255, 255] : List UInt8) then (if t245 = 0 then (if t246.toList = ([80, 0, 255, 97, 0, 1] : List UInt8) then (if t247 = 0 then (if t248.toList = ([16] : List UInt8) then (if t249 = 0 then (if t250.toList = ([33] : List UInt8) then (if t251 = 0 then (if t253 = 3 then (if (t254 == 4 && (t255 == 0 && (t256 == 0 && (t257.toList == ([0, 97] : List UInt8))))) = true then (if t258 = 7 then (if t259 = 0 then (if t266 = 7 then (if t273 = 3 then (if bt275.2.2.2.2.2 = 3 then (if bt282.2.2.2.2.2 = 3 then (if bt289.2.2.2.2.2 = 4 then ((col_Compare.f k 2 (-1) 0 (⟨#[]⟩ : ByteArray) 2 0 0 (⟨#[]⟩ : ByteArray)).bind fun t296 => (if t296 = (-1) then ((col_Compare.f k 4 0 0 (⟨#[]⟩ : ByteArray) 3 0 9 (⟨#[]⟩ : ByteArray)).bind fun t297 => (if t297 = 1 then ((col_Right.f k 3 0 9 (⟨#[]⟩ : ByteArray)).bind fun t298 => (if t298 = true then ((col_Right.f k 3 9 0 (⟨#[]⟩ : ByteArray)).bind fun t299 => (if t299 = true then (none) else (some true))) else (none))) else (none))) else (none))) else (none)) else (none)) else (none)) else (none)) else (none)) else (none)) else (none)) else (none)) else (none)) else (none)) else (none)) else (none)) else (none)) else (none)) else (none)) else (none)) else (none))))) = some r := H
 have A8 := Aside0.mk A80
 clear A80
 replace H := bM H
 obtain ⟨⟨t275, t276, t277, t278, t279, t280⟩, A90, H⟩ := H
 replace H : ((col_Get.f k (⟨#[64, 241, 0]⟩ : ByteArray) 0).bind fun bt282 => ((col_Get.f k (⟨#[97]⟩ : ByteArray) 2).bind fun bt289 => (if t244.toList = ([48, 127, 255, 255, 255, 255, 255, 255, 255] : List UInt8) then (if t245 = 0 then (if t246.toList = ([80, 0, 255, 97, 0, 1] : List UInt8) then (if t247 = 0 then (if t248.toList = ([16] : List UInt8) then (if t249 = 0 then (if t250.toList = ([33] : List UInt8) then (if t251 = 0 then (if t253 = 3 then (if (t254 == 4 && (t255 == 0 && (t256 == 0 && (t257.toList == ([0, 97] : List UInt8))))) = true then (if t258 = 7 then (if t259 = 0 then (if t266 = 7 then (if t273 = 3 then (if t280 = 3 then (if bt282.2.2.2.2.2 = 3 then (if bt289.2.2.2.2.2 = 4 then ((col_Compare.f k 2 (-1) 0 (⟨#[]⟩ : ByteArray) 2 0 0 (⟨#[]⟩ : ByteArray)).bind fun t296 => (if t296 = (-1) then ((col_Compare.f k 4 0 0 (⟨#[]⟩ : ByteArray) 3 0 9 (⟨#[]⟩ : ByteArray)).bind fun t297 => (if t297 = 1 then ((col_Right.f k 3 0 9 (⟨#[]⟩ : ByteArray)).bind fun t298 => (if t298 = true then ((col_Right.f k 3 9 0 (⟨#[]⟩ : ByteArray)).bind fun t299 => (if t299 = true then (none) else (some true))) else (none))) else (none))) else (none))) else (none)) else (none)) else (none)) else (none)) else (none)) else (none)) else (none)) else (none)) else (none)) else (none)) else (none)) else (none)) else (none)) else (none)) else (none)) else (none)) else (none)))) = some r := H
 have A9 := Aside0.mk A90
 clear A90
 replace H := bM H
 obtain ⟨⟨t282, t283, t284, t285, t286, t287⟩, A100, H⟩ := H
 replace H : ((col_Get.f k (⟨#[97]⟩ : ByteArray) 2).bind fun bt289 => (if t244.toList = ([48, 127, 255, 255, 255, 255, 255, 255, 255] : List UInt8) then (if t245 = 0 then (if t246.toList = ([80, 0, 255, 97, 0, 1] : List UInt8) then (if t247 = 0 then (if t248.toList = ([16] : List UInt8) then (if t249 = 0 then (if t250.toList = ([33] : List UInt8) then (if t251 = 0 then (if t253 = 3 then (if (t254 == 4 && (t255 == 0 && (t256 == 0 && (t257.toList == ([0, 97] : List UInt8))))) = true then (if t258 = 7 then (if t259 = 0 then (if t266 = 7 then (if t273 = 3 then (if t280 = 3 then (if t287 = 3 then (if bt289.2.2.2.2.2 = 4 then ((col_Compare.f k 2 (-1) 0 (⟨#[]⟩ : ByteArray) 2 0 0 (⟨#[]⟩ : ByteArray)).bind fun t296 => (if t296 = (-1) then ((col_Compare.f k 4 0 0 (⟨#[]⟩ : ByteArray) 3 0 9 (⟨#[]⟩ : ByteArray)).bind fun t297 => (if t297 = 1 then ((col_Right.f k 3 0 9 (⟨#[]⟩ : ByteArray)).bind fun t298 => (if t298 = true then ((col_Right.f k 3 9 0 (⟨#[]⟩ : ByteArray)).bind fun t299 => (if t299 = true then (none) else (some true))) else (none))) else (none))) else (none))) else (none)) else (none)) else (none)) else (none)) else (none)) else (none)) else (none)) else (none)) else (none)) else (none)) else (none)) else (none)) else (none)) else (none)) else (none)) else (none)) else (none))) = some r := H
 have A10 := Aside0.mk A100
 clear A100
 replace H := bM H
 obtain ⟨⟨t289, t290, t291, t292, t293, t294⟩, A110, H⟩ := H
 replace H : (if t244.toList = ([48, 127, 255, 255, 255, 255, 255, 255, 255] : List UInt8) then (if t245 = 0 then (if t246.toList = ([80, 0, 255, 97, 0, 1] : List UInt8) then (if t247 = 0 then (if t248.toList = ([16] : List UInt8) then (if t249 = 0 then (if t250.toList = ([33] : List UInt8) then (if t251 = 0 then (if t253 = 3 then (if (t254 == 4 && (t255 == 0 && (t256 == 0 && (t257.toList == ([0, 97] : List UInt8))))) = true then (if t258 = 7 then (if t259 = 0 then (if t266 = 7 then (if t273 = 3 then (if t280 = 3 then (if t287 = 3 then (if t294 = 4 then ((col_Compare.f k 2 (-1) 0 (⟨#[]⟩ : ByteArray) 2 0 0 (⟨#[]⟩ : ByteArray)).bind fun t296 => (if t296 = (-1) then ((col_Compare.f k 4 0 0 (⟨#[]⟩ : ByteArray) 3 0 9 (⟨#[]⟩ : ByteArray)).bind fun t297 => (if t297 = 1 then ((col_Right.f k 3 0 9 (⟨#[]⟩ : ByteArray)).bind fun t298 => (if t298 = true then ((col_Right.f k 3 9 0 (⟨#[]⟩ : ByteArray)).bind fun t299 => (if t299 = true then (none) else (some true))) else (none))) else (none))) else (none))) else (none)) else (none)) else (none)) else (none)) else (none)) else (none)) else (none)) else (none)) else (none)) else (none)) else (none)) else (none)) else (none)) else (none)) else (none)) else (none)) else (none)) = some r := H
 have A11 := Aside0.mk A110
 clear A110
 by_cases c12 : t244.toList = ([48, 127, 255, 255, 255, 255, 255, 255, 255] : List UInt8)
 rotate_left
 ·rw [if_neg c12] at H
  exact absurd H (by simp)
 
 rw [if_pos c12] at H
 have c12b0 : (t244.toList == ([48, 127, 255, 255, 255, 255, 255, 255, 255] : List UInt8)) = true := beq_iff_eq.mpr c12
 have c12b1 : (t244.toList != ([48, 127, 255, 255, 255, 255, 255, 255, 255] : List UInt8)) = false := bne_eq_false_iff_eq.mpr c12
 clear c12
 by_cases c13 : t245 = 0
 rotate_left
 ·rw [if_neg c13] at H
  exact absurd H (by simp)
 rw [if_pos c13] at H
 have c13b0 : (t245 == 0) = true := beq_iff_eq.mpr c13
 have c13b1 : (t245 != 0) = false := bne_eq_false_iff_eq.mpr c13
 clear c13
 by_cases c14 : t246.toList = ([80, 0, 255, 97, 0, 1] : List UInt8)
 rotate_left
 ·rw [if_neg c14] at H
  exact absurd H (by simp)
 rw [if_pos c14] at H
 have c14b0 : (t246.toList == ([80, 0, 255, 97, 0, 1] : List UInt8)) = true := beq_iff_eq.mpr c14
 have c14b1 : (t246.toList != ([80, 0, 255, 97, 0, 1] : List UInt8)) = false := bne_eq_false_iff_eq.mpr c14
 clear c14
 by_cases c15 : t247 = 0
 rotate_left
 ·rw [if_neg c15] at H
  exact absurd H (by simp)
 rw [if_pos c15] at H
 have c15b0 : (t247 == 0) = true := beq_iff_eq.mpr c15
 have c15b1 : (t247 != 0) = false := bne_eq_false_iff_eq.mpr c15
 clear c15
 by_cases c16 : t248.toList = ([16] : List UInt8)
 rotate_left
 ·rw [if_neg c16] at H
  exact absurd H (by simp)
 rw [if_pos c16] at H
 have c16b0 : (t248.toList == ([16] : List UInt8)) = true := beq_iff_eq.mpr c16
 have c16b1 : (t248.toList != ([16] : List UInt8)) = false := bne_eq_false_iff_eq.mpr c16
 clear c16
 by_cases c17 : t249 = 0
 rotate_left
 ·rw [if_neg c17] at H
  exact absurd H (by simp)
 rw [if_pos c17] at H
 have c17b0 : (t249 == 0) = true := beq_iff_eq.mpr c17
 have c17b1 : (t249 != 0) = false := bne_eq_false_iff_eq.mpr c17
 clear c17
 by_cases c18 : t250.toList = ([33] : List UInt8)
 rotate_left
 ·rw [if_neg c18] at H
  exact absurd H (by simp)
 rw [if_pos c18] at H
 have c18b0 : (t250.toList == ([33] : List UInt8)) = true := beq_iff_eq.mpr c18
 have c18b1 : (t250.toList != ([33] : List UInt8)) = false := bne_eq_false_iff_eq.mpr c18
 clear c18
 by_cases c19 : t251 = 0
 rotate_left
 ·rw [if_neg c19] at H
  exact absurd H (by simp)
 rw [if_pos c19] at H
 have c19b0 : (t251 == 0) = true := beq_iff_eq.mpr c19
 have c19b1 : (t251 != 0) = false := bne_eq_false_iff_eq.mpr c19
 clear c19
 by_cases c20 : t253 = 3
 rotate_left
 ·rw [if_neg c20] at H
  exact absurd H (by simp)
 rw [if_pos c20] at H
 have c20b0 : (t253 == 3) = true := beq_iff_eq.mpr c20
 have c20b1 : (t253 != 3) = false := bne_eq_false_iff_eq.mpr c20
 clear c20
 by_cases c21 : (t254 == 4 && (t255 == 0 && (t256 == 0 && (t257.toList == ([0, 97] : List UInt8))))) = true
 rotate_left
 ·rw [if_neg c21] at H
  exact absurd H (by simp)
 rw [if_pos c21] at H
 have c21b0 : (t254 == 4 && (t255 == 0 && (t256 == 0 && (t257.toList == ([0, 97] : List UInt8))))) = true := c21
 (try (have c21b8 : (t254 = 4 ∧ t255 = 0 ∧ t256 = 0 ∧ t257.toList = [0, 97]) = True := eq_true (by simpa using c21)))
 (try (have c21b1 : t254 = 4 && (t255 == 0 && (t256 == 0 && (t257.toList == ([0, 97] : List UInt8)))) := by simpa using c21))
 (try (have c21b2 : decide (t254 = 4 && (t255 == 0 && (t256 == 0 && (t257.toList == ([0, 97] : List UInt8))))) = true := by simpa using c21))
 (try (have c21b3 : (t254 == 4 && (t255 == 0 && (t256 == 0 && (t257.toList == ([0, 97] : List UInt8))))) = true := by simpa using c21))
 clear c21
 by_cases c22 : t258 = 7
 rotate_left
 ·rw [if_neg c22] at H
  exact absurd H (by simp)
 rw [if_pos c22] at H
 have c22b0 : (t258 == 7) = true := beq_iff_eq.mpr c22
 have c22b1 : (t258 != 7) = false := bne_eq_false_iff_eq.mpr c22
 clear c22
 by_cases c23 : t259 = 0
 rotate_left
 ·rw [if_neg c23] at H
  exact absurd H (by simp)
 rw [if_pos c23] at H
 have c23b0 : (t259 == 0) = true := beq_iff_eq.mpr c23
 have c23b1 : (t259 != 0) = false := bne_eq_false_iff_eq.mpr c23
 clear c23
 by_cases c24 : t266 = 7
 rotate_left
 ·rw [if_neg c24] at H
  exact absurd H (by simp)
 rw [if_pos c24] at H
 have c24b0 : (t266 == 7) = true := beq_iff_eq.mpr c24
 have c24b1 : (t266 != 7) = false := bne_eq_false_iff_eq.mpr c24
 clear c24
 by_cases c25 : t273 = 3
 rotate_left
 ·rw [if_neg c25] at H
  exact absurd H (by simp)
 rw [if_pos c25] at H
 have c25b0 : (t273 == 3) = true := beq_iff_eq.mpr c25
 have c25b1 : (t273 != 3) = false := bne_eq_false_iff_eq.mpr c25
 clear c25
 by_cases c26 : t280 = 3
 rotate_left
 ·rw [if_neg c26] at H
  exact absurd H (by simp)
 rw [if_pos c26] at H
 have c26b0 : (t280 == 3) = true := beq_iff_eq.mpr c26
 have c26b1 : (t280 != 3) = false := bne_eq_false_iff_eq.mpr c26
 clear c26
 by_cases c27 : t287 = 3
 rotate_left
 ·rw [if_neg c27] at H
  exact absurd H (by simp)
 rw [if_pos c27] at H
 have c27b0 : (t287 == 3) = true := beq_iff_eq.mpr c27
 have c27b1 : (t287 != 3) = false := bne_eq_false_iff_eq.mpr c27
 clear c27
 by_cases c28 : t294 = 4
 rotate_left
 ·rw [if_neg c28] at H
  exact absurd H (by simp)
 rw [if_pos c28] at H
 have c28b0 : (t294 == 4) = true := beq_iff_eq.mpr c28
 have c28b1 : (t294 != 4) = false := bne_eq_false_iff_eq.mpr c28
 clear c28
 replace H := bM H
 obtain ⟨t296, A290, H⟩ := H
 replace H : (if t296 = (-1) then ((col_Compare.f k 4 0 0 (⟨#[]⟩ : ByteArray) 3 0 9 (⟨#[]⟩ : ByteArray)).bind fun t297 => (if t297 = 1 then ((col_Right.f k 3 0 9 (⟨#[]⟩ : ByteArray)).bind fun t298 => (if t298 = true then ((col_Right.f k 3 9 0 (⟨#[]⟩ : ByteArray)).bind fun t299 => (if t299 = true then (none) else (some true))) else (none))) else (none))) else (none)) = some r := H
 have A29 := Aside0.mk A290
 clear A290
 by_cases c30 : t296 = (-1)
 rotate_left
 ·rw [if_neg c30] at H
  exact absurd H (by simp)
 rw [if_pos c30] at H
 have c30b0 : (t296 == (-1)) = true := beq_iff_eq.mpr c30
 have c30b1 : (t296 != (-1)) = false := bne_eq_false_iff_eq.mpr c30
 clear c30
 replace H := bM H
 obtain ⟨t297, A310, H⟩ := H
 replace H : (if t297 = 1 then ((col_Right.f k 3 0 9 (⟨#[]⟩ : ByteArray)).bind fun t298 => (if t298 = true then ((col_Right.f k 3 9 0 (⟨#[]⟩ : ByteArray)).bind fun t299 => (if t299 = true then (none) else (some true))) else (none))) else (none)) = some r := H
 have A31 := Aside0.mk A310
 clear A310
 by_cases c32 : t297 = 1
 rotate_left
 ·rw [if_neg c32] at H
  exact absurd H (by simp)
 rw [if_pos c32] at H
 have c32b0 : (t297 == 1) = true := beq_iff_eq.mpr c32
 have c32b1 : (t297 != 1) = false := bne_eq_false_iff_eq.mpr c32
 clear c32
 replace H := bM H
 obtain ⟨t298, A330, H⟩ := H
 replace H : (if t298 = true then ((col_Right.f k 3 9 0 (⟨#[]⟩ : ByteArray)).bind fun t299 => (if t299 = true then (none) else (some true))) else (none)) = some r := H
 have A33 := Aside0.mk A330
 clear A330
 by_cases c34 : t298 = true
 rotate_left
 ·replace c34 := Bool.eq_false_iff.mpr c34
  subst c34
  have H1 : (none) = some r := by rw [if_neg (show ¬ (false = true) by decide)] at H; exact H
  clear H
  have H := H1
  clear H1
  exact absurd H (by simp)
 subst c34
 have H1 : ((col_Right.f k 3 9 0 (⟨#[]⟩ : ByteArray)).bind fun t299 => (if t299 = true then (none) else (some true))) = some r := by rw [if_pos rfl] at H; exact H
 clear H
 have H := H1
 clear H1
 replace H := bM H
 obtain ⟨t299, A350, H⟩ := H
 replace H : (if t299 = true then (none) else (some true)) = some r := H
 have A35 := Aside0.mk A350
 clear A350
 by_cases c36 : t299 = true
 ·subst c36
  have H1 : (none) = some r := by rw [if_pos rfl] at H; exact H
  clear H
  have H := H1
  clear H1
  exact absurd H (by simp)
 replace c36 := Bool.eq_false_iff.mpr c36
 subst c36
 have H1 : (some true) = some r := by rw [if_neg (show ¬ (false = true) by decide)] at H; exact H
 clear H
 have H := H1
 clear H1
 obtain rfl := Option.some.inj H
 go_enter Tryd.func19, Tryd.ntmps19
 (try simp only [List.append_eq, List.cons_append, List.nil_append])
 go_wp2_with (first | ((with_reducible refine gate_callee (f := 10) rfl ?_); refine goesL_ (some 31) rfl rfl Tryd.func10 (by kernel_rfl) rfl #[.agg #[.int .i64 2, .int .i64 (-1), .int .u64 0, .string (⟨#[]⟩ : ByteArray)]] rfl aO ?_; (with_reducible refine (col_Put.calls k 2 (-1) 0 (⟨#[]⟩ : ByteArray) t244 t245 _ A1.out).mono ?_); rintro e w37 ⟨rfl, hb⟩; refine ⟨_, rfl, ?_⟩; replace HB := as_ (below_step bA hb); (try clear hb); (try clear hb2); (try clear hk); (try clear hi)) | ((with_reducible refine gate_callee (f := 10) rfl ?_); refine goesL_ (some 36) rfl rfl Tryd.func10 (by kernel_rfl) rfl #[.agg #[.int .i64 4, .int .i64 0, .int .u64 0, .string (⟨#[0, 97]⟩ : ByteArray)]] rfl aO ?_; (with_reducible refine (col_Put.calls k 4 0 0 (⟨#[0, 97]⟩ : ByteArray) t246 t247 _ A2.out).mono ?_); rintro e w38 ⟨rfl, hb⟩; refine ⟨_, rfl, ?_⟩; replace HB := as_ (below_step bA hb); (try clear hb); (try clear hb2); (try clear hk); (try clear hi)) | ((with_reducible refine gate_callee (f := 10) rfl ?_); refine goesL_ (some 41) rfl rfl Tryd.func10 (by kernel_rfl) rfl #[.agg #[.int .i64 0, .int .i64 0, .int .u64 0, .string (⟨#[]⟩ : ByteArray)]] rfl aO ?_; (with_reducible refine (col_Put.calls k 0 0 0 (⟨#[]⟩ : ByteArray) t248 t249 _ A3.out).mono ?_); rintro e w39 ⟨rfl, hb⟩; refine ⟨_, rfl, ?_⟩; replace HB := as_ (below_step bA hb); (try clear hb); (try clear hb2); (try clear hk); (try clear hi)) | ((with_reducible refine gate_callee (f := 10) rfl ?_); refine goesL_ (some 46) rfl rfl Tryd.func10 (by kernel_rfl) rfl #[.agg #[.int .i64 1, .int .i64 0, .int .u64 1, .string (⟨#[]⟩ : ByteArray)]] rfl aO ?_; (with_reducible refine (col_Put.calls k 1 0 1 (⟨#[]⟩ : ByteArray) t250 t251 _ A4.out).mono ?_); rintro e w40 ⟨rfl, hb⟩; refine ⟨_, rfl, ?_⟩; replace HB := as_ (below_step bA hb); (try clear hb); (try clear hb2); (try clear hk); (try clear hi)) | ((with_reducible refine gate_callee (f := 10) rfl ?_); refine goesL_ (some 51) rfl rfl Tryd.func10 (by kernel_rfl) rfl #[.agg #[.int .i64 1, .int .i64 0, .int .u64 2, .string (⟨#[]⟩ : ByteArray)]] rfl aO ?_; (with_reducible refine (col_Put.calls k 1 0 2 (⟨#[]⟩ : ByteArray) t252 t253 _ A5.out).mono ?_); rintro e w41 ⟨rfl, hb⟩; refine ⟨_, rfl, ?_⟩; replace HB := as_ (below_step bA hb); (try clear hb); (try clear hb2); (try clear hk); (try clear hi)) | ((with_reducible refine gate_callee (f := 13) rfl ?_); refine goesL_ (some 55) rfl rfl Tryd.func13 (by kernel_rfl) rfl #[.string (⟨#[122, 80, 0, 255, 97, 0, 1, 121]⟩ : ByteArray), .int .i64 1] rfl aO ?_; (with_reducible refine (col_Get.calls k (⟨#[122, 80, 0, 255, 97, 0, 1, 121]⟩ : ByteArray) 1 t254 t255 t256 t257 t258 t259 _ A6.out).mono ?_); rintro e w42 ⟨rfl, hb⟩; refine ⟨_, rfl, ?_⟩; replace HB := as_ (below_step bA hb); (try clear hb); (try clear hb2); (try clear hk); (try clear hi)) | ((with_reducible refine gate_dst (N := 11) rfl ?_); refine box_event ?hg (N := 11) ?hd (cs := #[.int .i64 0, .int .i64 0, .int .u64 0, .string (⟨#[]⟩ : ByteArray)]) (t := 24) ?hr ?_; (case hd => rfl); (case hg => rfl); (case hr => first | (go_simp; done) | (go_simp; rfl)); intro gb260 hg w43 hbox hb; have BK260 := as_ (hbox); have GW260 := gw hg bA; have GE260 := gw hg bA; replace HB := as_ (below_step bA hb); clear hb hbox hg; obtain ⟨hcz44_0, hcz44_1, hcz44_2, hcz44_3⟩ := zc4 BK260; obtain ⟨hfz44_0, hfz44_1, hfz44_2, hfz44_3⟩ := zf4 BK260) | ((with_reducible refine gate_callee (f := 13) rfl ?_); refine goesL_ (some 60) rfl rfl Tryd.func13 (by kernel_rfl) rfl #[.string (⟨#[80, 97]⟩ : ByteArray), .int .i64 0] rfl aO ?_; (with_reducible refine (col_Get.calls k (⟨#[80, 97]⟩ : ByteArray) 0 t261 t262 t263 t264 t265 t266 _ A7.out).mono ?_); rintro e w45 ⟨rfl, hb⟩; refine ⟨_, rfl, ?_⟩; replace BK260 := as_ (blk_below (g := gb260) (o := .cells #[.int .i64 t254, .int .i64 t255, .int .u64 t256, .string t257] 24 (0, 0)) (by refine bx ?_; refine blk_put (cs := #[.int .i64 t254, .int .i64 t255, .int .u64 t256, .string (⟨#[]⟩ : ByteArray)]) ?_ 3 _ rfl; refine bx ?_; refine blk_put (cs := #[.int .i64 t254, .int .i64 t255, .int .u64 0, .string (⟨#[]⟩ : ByteArray)]) ?_ 2 _ rfl; refine bx ?_; refine blk_put (cs := #[.int .i64 t254, .int .i64 0, .int .u64 0, .string (⟨#[]⟩ : ByteArray)]) ?_ 1 _ rfl; refine bx ?_; refine blk_put (cs := #[.int .i64 0, .int .i64 0, .int .u64 0, .string (⟨#[]⟩ : ByteArray)]) ?_ 0 _ rfl; refine bx ?_; exact BK260.out) hb); replace HB := as_ (below_step bA hb); (try clear hb); (try clear hb2); (try clear hk); (try clear hi)) | ((with_reducible refine gate_dst (N := 14) rfl ?_); refine box_event ?hg (N := 14) ?hd (cs := #[.int .i64 0, .int .i64 0, .int .u64 0, .string (⟨#[]⟩ : ByteArray)]) (t := 24) ?hr ?_; (case hd => rfl); (case hg => rfl); (case hr => first | (go_simp; done) | (go_simp; rfl)); intro gb267 hg w46 hbox hb; have BK267 := as_ (hbox); have GW267 := gw hg bA; have GE267 := gw hg bA; have NB260_267 := nl BK260 hg; have NB267_260 := ng BK260 hg; replace BK260 := bb BK260 hb; replace HB := as_ (below_step bA hb); clear hb hbox hg; have hnb47 := NB267_260.out; have hnc47 := NB260_267.out; obtain ⟨hcz48_0, hcz48_1, hcz48_2, hcz48_3⟩ := zc4 BK267; obtain ⟨hfz48_0, hfz48_1, hfz48_2, hfz48_3⟩ := zf4 BK267) | ((with_reducible refine gate_callee (f := 13) rfl ?_); refine goesL_ (some 65) rfl rfl Tryd.func13 (by kernel_rfl) rfl #[.string (⟨#[80, 0, 2]⟩ : ByteArray), .int .i64 0] rfl aO ?_; (with_reducible refine (col_Get.calls k (⟨#[80, 0, 2]⟩ : ByteArray) 0 t268 t269 t270 t271 t272 t273 _ A8.out).mono ?_); rintro e w49 ⟨rfl, hb⟩; refine ⟨_, rfl, ?_⟩; replace BK260 := as_ (blk_below (g := gb260) (o := .cells #[.int .i64 t254, .int .i64 t255, .int .u64 t256, .string t257] 24 (0, 0)) (by refine bx ?_; refine blk_far ?_ NB260_267.out _; refine bx ?_; refine blk_far ?_ NB260_267.out _; refine bx ?_; refine blk_far ?_ NB260_267.out _; refine bx ?_; refine blk_far ?_ NB260_267.out _; refine bx ?_; exact BK260.out) hb); replace BK267 := as_ (blk_below (g := gb267) (o := .cells #[.int .i64 t261, .int .i64 t262, .int .u64 t263, .string t264] 24 (0, 0)) (by refine bx ?_; refine blk_put (cs := #[.int .i64 t261, .int .i64 t262, .int .u64 t263, .string (⟨#[]⟩ : ByteArray)]) ?_ 3 _ rfl; refine bx ?_; refine blk_put (cs := #[.int .i64 t261, .int .i64 t262, .int .u64 0, .string (⟨#[]⟩ : ByteArray)]) ?_ 2 _ rfl; refine bx ?_; refine blk_put (cs := #[.int .i64 t261, .int .i64 0, .int .u64 0, .string (⟨#[]⟩ : ByteArray)]) ?_ 1 _ rfl; refine bx ?_; refine blk_put (cs := #[.int .i64 0, .int .i64 0, .int .u64 0, .string (⟨#[]⟩ : ByteArray)]) ?_ 0 _ rfl; refine bx ?_; exact BK267.out) hb); replace HB := as_ (below_step bA hb); (try clear hb); (try clear hb2); (try clear hk); (try clear hi)) | ((with_reducible refine gate_dst (N := 17) rfl ?_); refine box_event ?hg (N := 17) ?hd (cs := #[.int .i64 0, .int .i64 0, .int .u64 0, .string (⟨#[]⟩ : ByteArray)]) (t := 24) ?hr ?_; (case hd => rfl); (case hg => rfl); (case hr => first | (go_simp; done) | (go_simp; rfl)); intro gb274 hg w50 hbox hb; have BK274 := as_ (hbox); have GW274 := gw hg bA; have GE274 := gw hg bA; have NB260_274 := nl BK260 hg; have NB274_260 := ng BK260 hg; have NB267_274 := nl BK267 hg; have NB274_267 := ng BK267 hg; replace BK260 := bb BK260 hb; replace BK267 := bb BK267 hb; replace HB := as_ (below_step bA hb); clear hb hbox hg; have hnb51 := NB274_260.out; have hnc51 := NB260_274.out; have hnb52 := NB274_267.out; have hnc52 := NB267_274.out; obtain ⟨hcz53_0, hcz53_1, hcz53_2, hcz53_3⟩ := zc4 BK274; obtain ⟨hfz53_0, hfz53_1, hfz53_2, hfz53_3⟩ := zf4 BK274) | ((with_reducible refine gate_callee (f := 13) rfl ?_); refine goesL_ (some 70) rfl rfl Tryd.func13 (by kernel_rfl) rfl #[.string (⟨#[17]⟩ : ByteArray), .int .i64 0] rfl aO ?_; (with_reducible refine (col_Get.calls k (⟨#[17]⟩ : ByteArray) 0 t275 t276 t277 t278 t279 t280 _ A9.out).mono ?_); rintro e w54 ⟨rfl, hb⟩; refine ⟨_, rfl, ?_⟩; replace BK260 := as_ (blk_below (g := gb260) (o := .cells #[.int .i64 t254, .int .i64 t255, .int .u64 t256, .string t257] 24 (0, 0)) (by refine bx ?_; refine blk_far ?_ NB260_274.out _; refine bx ?_; refine blk_far ?_ NB260_274.out _; refine bx ?_; refine blk_far ?_ NB260_274.out _; refine bx ?_; refine blk_far ?_ NB260_274.out _; refine bx ?_; exact BK260.out) hb); replace BK267 := as_ (blk_below (g := gb267) (o := .cells #[.int .i64 t261, .int .i64 t262, .int .u64 t263, .string t264] 24 (0, 0)) (by refine bx ?_; refine blk_far ?_ NB267_274.out _; refine bx ?_; refine blk_far ?_ NB267_274.out _; refine bx ?_; refine blk_far ?_ NB267_274.out _; refine bx ?_; refine blk_far ?_ NB267_274.out _; refine bx ?_; exact BK267.out) hb); replace BK274 := as_ (blk_below (g := gb274) (o := .cells #[.int .i64 t268, .int .i64 t269, .int .u64 t270, .string t271] 24 (0, 0)) (by refine bx ?_; refine blk_put (cs := #[.int .i64 t268, .int .i64 t269, .int .u64 t270, .string (⟨#[]⟩ : ByteArray)]) ?_ 3 _ rfl; refine bx ?_; refine blk_put (cs := #[.int .i64 t268, .int .i64 t269, .int .u64 0, .string (⟨#[]⟩ : ByteArray)]) ?_ 2 _ rfl; refine bx ?_; refine blk_put (cs := #[.int .i64 t268, .int .i64 0, .int .u64 0, .string (⟨#[]⟩ : ByteArray)]) ?_ 1 _ rfl; refine bx ?_; refine blk_put (cs := #[.int .i64 0, .int .i64 0, .int .u64 0, .string (⟨#[]⟩ : ByteArray)]) ?_ 0 _ rfl; refine bx ?_; exact BK274.out) hb); replace HB := as_ (below_step bA hb); (try clear hb); (try clear hb2); (try clear hk); (try clear hi)) | ((with_reducible refine gate_dst (N := 20) rfl ?_); refine box_event ?hg (N := 20) ?hd (cs := #[.int .i64 0, .int .i64 0, .int .u64 0, .string (⟨#[]⟩ : ByteArray)]) (t := 24) ?hr ?_; (case hd => rfl); (case hg => rfl); (case hr => first | (go_simp; done) | (go_simp; rfl)); intro gb281 hg w55 hbox hb; have BK281 := as_ (hbox); have GW281 := gw hg bA; have GE281 := gw hg bA; have NB260_281 := nl BK260 hg; have NB281_260 := ng BK260 hg; have NB267_281 := nl BK267 hg; have NB281_267 := ng BK267 hg; have NB274_281 := nl BK274 hg; have NB281_274 := ng BK274 hg; replace BK260 := bb BK260 hb; replace BK267 := bb BK267 hb; replace BK274 := bb BK274 hb; replace HB := as_ (below_step bA hb); clear hb hbox hg; have hnb56 := NB281_260.out; have hnc56 := NB260_281.out; have hnb57 := NB281_267.out; have hnc57 := NB267_281.out; have hnb58 := NB281_274.out; have hnc58 := NB274_281.out; obtain ⟨hcz59_0, hcz59_1, hcz59_2, hcz59_3⟩ := zc4 BK281; obtain ⟨hfz59_0, hfz59_1, hfz59_2, hfz59_3⟩ := zf4 BK281) | ((with_reducible refine gate_callee (f := 13) rfl ?_); refine goesL_ (some 75) rfl rfl Tryd.func13 (by kernel_rfl) rfl #[.string (⟨#[64, 241, 0]⟩ : ByteArray), .int .i64 0] rfl aO ?_; (with_reducible refine (col_Get.calls k (⟨#[64, 241, 0]⟩ : ByteArray) 0 t282 t283 t284 t285 t286 t287 _ A10.out).mono ?_); rintro e w60 ⟨rfl, hb⟩; refine ⟨_, rfl, ?_⟩; replace BK260 := as_ (blk_below (g := gb260) (o := .cells #[.int .i64 t254, .int .i64 t255, .int .u64 t256, .string t257] 24 (0, 0)) (by refine bx ?_; refine blk_far ?_ NB260_281.out _; refine bx ?_; refine blk_far ?_ NB260_281.out _; refine bx ?_; refine blk_far ?_ NB260_281.out _; refine bx ?_; refine blk_far ?_ NB260_281.out _; refine bx ?_; exact BK260.out) hb); replace BK267 := as_ (blk_below (g := gb267) (o := .cells #[.int .i64 t261, .int .i64 t262, .int .u64 t263, .string t264] 24 (0, 0)) (by refine bx ?_; refine blk_far ?_ NB267_281.out _; refine bx ?_; refine blk_far ?_ NB267_281.out _; refine bx ?_; refine blk_far ?_ NB267_281.out _; refine bx ?_; refine blk_far ?_ NB267_281.out _; refine bx ?_; exact BK267.out) hb); replace BK274 := as_ (blk_below (g := gb274) (o := .cells #[.int .i64 t268, .int .i64 t269, .int .u64 t270, .string t271] 24 (0, 0)) (by refine bx ?_; refine blk_far ?_ NB274_281.out _; refine bx ?_; refine blk_far ?_ NB274_281.out _; refine bx ?_; refine blk_far ?_ NB274_281.out _; refine bx ?_; refine blk_far ?_ NB274_281.out _; refine bx ?_; exact BK274.out) hb); replace BK281 := as_ (blk_below (g := gb281) (o := .cells #[.int .i64 t275, .int .i64 t276, .int .u64 t277, .string t278] 24 (0, 0)) (by refine bx ?_; refine blk_put (cs := #[.int .i64 t275, .int .i64 t276, .int .u64 t277, .string (⟨#[]⟩ : ByteArray)]) ?_ 3 _ rfl; refine bx ?_; refine blk_put (cs := #[.int .i64 t275, .int .i64 t276, .int .u64 0, .string (⟨#[]⟩ : ByteArray)]) ?_ 2 _ rfl; refine bx ?_; refine blk_put (cs := #[.int .i64 t275, .int .i64 0, .int .u64 0, .string (⟨#[]⟩ : ByteArray)]) ?_ 1 _ rfl; refine bx ?_; refine blk_put (cs := #[.int .i64 0, .int .i64 0, .int .u64 0, .string (⟨#[]⟩ : ByteArray)]) ?_ 0 _ rfl; refine bx ?_; exact BK281.out) hb); replace HB := as_ (below_step bA hb); (try clear hb); (try clear hb2); (try clear hk); (try clear hi)) | ((with_reducible refine gate_dst (N := 23) rfl ?_); refine box_event ?hg (N := 23) ?hd (cs := #[.int .i64 0, .int .i64 0, .int .u64 0, .string (⟨#[]⟩ : ByteArray)]) (t := 24) ?hr ?_; (case hd => rfl); (case hg => rfl); (case hr => first | (go_simp; done) | (go_simp; rfl)); intro gb288 hg w61 hbox hb; have BK288 := as_ (hbox); have GW288 := gw hg bA; have GE288 := gw hg bA; have NB260_288 := nl BK260 hg; have NB288_260 := ng BK260 hg; have NB267_288 := nl BK267 hg; have NB288_267 := ng BK267 hg; have NB274_288 := nl BK274 hg; have NB288_274 := ng BK274 hg; have NB281_288 := nl BK281 hg; have NB288_281 := ng BK281 hg; replace BK260 := bb BK260 hb; replace BK267 := bb BK267 hb; replace BK274 := bb BK274 hb; replace BK281 := bb BK281 hb; replace HB := as_ (below_step bA hb); clear hb hbox hg; have hnb62 := NB288_260.out; have hnc62 := NB260_288.out; have hnb63 := NB288_267.out; have hnc63 := NB267_288.out; have hnb64 := NB288_274.out; have hnc64 := NB274_288.out; have hnb65 := NB288_281.out; have hnc65 := NB281_288.out; obtain ⟨hcz66_0, hcz66_1, hcz66_2, hcz66_3⟩ := zc4 BK288; obtain ⟨hfz66_0, hfz66_1, hfz66_2, hfz66_3⟩ := zf4 BK288) | ((with_reducible refine gate_callee (f := 13) rfl ?_); refine goesL_ (some 80) rfl rfl Tryd.func13 (by kernel_rfl) rfl #[.string (⟨#[97]⟩ : ByteArray), .int .i64 2] rfl aO ?_; (with_reducible refine (col_Get.calls k (⟨#[97]⟩ : ByteArray) 2 t289 t290 t291 t292 t293 t294 _ A11.out).mono ?_); rintro e w67 ⟨rfl, hb⟩; refine ⟨_, rfl, ?_⟩; replace BK260 := as_ (blk_below (g := gb260) (o := .cells #[.int .i64 t254, .int .i64 t255, .int .u64 t256, .string t257] 24 (0, 0)) (by refine bx ?_; refine blk_far ?_ NB260_288.out _; refine bx ?_; refine blk_far ?_ NB260_288.out _; refine bx ?_; refine blk_far ?_ NB260_288.out _; refine bx ?_; refine blk_far ?_ NB260_288.out _; refine bx ?_; exact BK260.out) hb); replace BK267 := as_ (blk_below (g := gb267) (o := .cells #[.int .i64 t261, .int .i64 t262, .int .u64 t263, .string t264] 24 (0, 0)) (by refine bx ?_; refine blk_far ?_ NB267_288.out _; refine bx ?_; refine blk_far ?_ NB267_288.out _; refine bx ?_; refine blk_far ?_ NB267_288.out _; refine bx ?_; refine blk_far ?_ NB267_288.out _; refine bx ?_; exact BK267.out) hb); replace BK274 := as_ (blk_below (g := gb274) (o := .cells #[.int .i64 t268, .int .i64 t269, .int .u64 t270, .string t271] 24 (0, 0)) (by refine bx ?_; refine blk_far ?_ NB274_288.out _; refine bx ?_; refine blk_far ?_ NB274_288.out _; refine bx ?_; refine blk_far ?_ NB274_288.out _; refine bx ?_; refine blk_far ?_ NB274_288.out _; refine bx ?_; exact BK274.out) hb); replace BK281 := as_ (blk_below (g := gb281) (o := .cells #[.int .i64 t275, .int .i64 t276, .int .u64 t277, .string t278] 24 (0, 0)) (by refine bx ?_; refine blk_far ?_ NB281_288.out _; refine bx ?_; refine blk_far ?_ NB281_288.out _; refine bx ?_; refine blk_far ?_ NB281_288.out _; refine bx ?_; refine blk_far ?_ NB281_288.out _; refine bx ?_; exact BK281.out) hb); replace BK288 := as_ (blk_below (g := gb288) (o := .cells #[.int .i64 t282, .int .i64 t283, .int .u64 t284, .string t285] 24 (0, 0)) (by refine bx ?_; refine blk_put (cs := #[.int .i64 t282, .int .i64 t283, .int .u64 t284, .string (⟨#[]⟩ : ByteArray)]) ?_ 3 _ rfl; refine bx ?_; refine blk_put (cs := #[.int .i64 t282, .int .i64 t283, .int .u64 0, .string (⟨#[]⟩ : ByteArray)]) ?_ 2 _ rfl; refine bx ?_; refine blk_put (cs := #[.int .i64 t282, .int .i64 0, .int .u64 0, .string (⟨#[]⟩ : ByteArray)]) ?_ 1 _ rfl; refine bx ?_; refine blk_put (cs := #[.int .i64 0, .int .i64 0, .int .u64 0, .string (⟨#[]⟩ : ByteArray)]) ?_ 0 _ rfl; refine bx ?_; exact BK288.out) hb); replace HB := as_ (below_step bA hb); (try clear hb); (try clear hb2); (try clear hk); (try clear hi)) | ((with_reducible refine gate_dst (N := 26) rfl ?_); refine box_event ?hg (N := 26) ?hd (cs := #[.int .i64 0, .int .i64 0, .int .u64 0, .string (⟨#[]⟩ : ByteArray)]) (t := 24) ?hr ?_; (case hd => rfl); (case hg => rfl); (case hr => first | (go_simp; done) | (go_simp; rfl)); intro gb295 hg w68 hbox hb; have BK295 := as_ (hbox); have GW295 := gw hg bA; have GE295 := gw hg bA; have NB260_295 := nl BK260 hg; have NB295_260 := ng BK260 hg; have NB267_295 := nl BK267 hg; have NB295_267 := ng BK267 hg; have NB274_295 := nl BK274 hg; have NB295_274 := ng BK274 hg; have NB281_295 := nl BK281 hg; have NB295_281 := ng BK281 hg; have NB288_295 := nl BK288 hg; have NB295_288 := ng BK288 hg; replace BK260 := bb BK260 hb; replace BK267 := bb BK267 hb; replace BK274 := bb BK274 hb; replace BK281 := bb BK281 hb; replace BK288 := bb BK288 hb; replace HB := as_ (below_step bA hb); clear hb hbox hg; have hnb69 := NB295_260.out; have hnc69 := NB260_295.out; have hnb70 := NB295_267.out; have hnc70 := NB267_295.out; have hnb71 := NB295_274.out; have hnc71 := NB274_295.out; have hnb72 := NB295_281.out; have hnc72 := NB281_295.out; have hnb73 := NB295_288.out; have hnc73 := NB288_295.out; obtain ⟨hcz74_0, hcz74_1, hcz74_2, hcz74_3⟩ := zc4 BK295; obtain ⟨hfz74_0, hfz74_1, hfz74_2, hfz74_3⟩ := zf4 BK295; obtain ⟨hcz75_0, hcz75_1, hcz75_2, hcz75_3⟩ := zc4 BK260; obtain ⟨hfz75_0, hfz75_1, hfz75_2, hfz75_3⟩ := zf4 BK260) | (go_at_call 17; (with_reducible refine (col_Compare.calls k 2 (-1) 0 (⟨#[]⟩ : ByteArray) 2 0 0 (⟨#[]⟩ : ByteArray) t296 _ A29.out).mono ?_); rintro e w76 ⟨rfl, hb⟩; replace BK260 := as_ (blk_below (g := gb260) (o := .cells #[.int .i64 t254, .int .i64 t255, .int .u64 t256, .string t257] 24 (0, 0)) (by refine bx ?_; refine blk_far ?_ NB260_295.out _; refine bx ?_; refine blk_far ?_ NB260_295.out _; refine bx ?_; refine blk_far ?_ NB260_295.out _; refine bx ?_; refine blk_far ?_ NB260_295.out _; refine bx ?_; exact BK260.out) hb); replace BK267 := as_ (blk_below (g := gb267) (o := .cells #[.int .i64 t261, .int .i64 t262, .int .u64 t263, .string t264] 24 (0, 0)) (by refine bx ?_; refine blk_far ?_ NB267_295.out _; refine bx ?_; refine blk_far ?_ NB267_295.out _; refine bx ?_; refine blk_far ?_ NB267_295.out _; refine bx ?_; refine blk_far ?_ NB267_295.out _; refine bx ?_; exact BK267.out) hb); replace BK274 := as_ (blk_below (g := gb274) (o := .cells #[.int .i64 t268, .int .i64 t269, .int .u64 t270, .string t271] 24 (0, 0)) (by refine bx ?_; refine blk_far ?_ NB274_295.out _; refine bx ?_; refine blk_far ?_ NB274_295.out _; refine bx ?_; refine blk_far ?_ NB274_295.out _; refine bx ?_; refine blk_far ?_ NB274_295.out _; refine bx ?_; exact BK274.out) hb); replace BK281 := as_ (blk_below (g := gb281) (o := .cells #[.int .i64 t275, .int .i64 t276, .int .u64 t277, .string t278] 24 (0, 0)) (by refine bx ?_; refine blk_far ?_ NB281_295.out _; refine bx ?_; refine blk_far ?_ NB281_295.out _; refine bx ?_; refine blk_far ?_ NB281_295.out _; refine bx ?_; refine blk_far ?_ NB281_295.out _; refine bx ?_; exact BK281.out) hb); replace BK288 := as_ (blk_below (g := gb288) (o := .cells #[.int .i64 t282, .int .i64 t283, .int .u64 t284, .string t285] 24 (0, 0)) (by refine bx ?_; refine blk_far ?_ NB288_295.out _; refine bx ?_; refine blk_far ?_ NB288_295.out _; refine bx ?_; refine blk_far ?_ NB288_295.out _; refine bx ?_; refine blk_far ?_ NB288_295.out _; refine bx ?_; exact BK288.out) hb); replace BK295 := as_ (blk_below (g := gb295) (o := .cells #[.int .i64 t289, .int .i64 t290, .int .u64 t291, .string t292] 24 (0, 0)) (by refine bx ?_; refine blk_put (cs := #[.int .i64 t289, .int .i64 t290, .int .u64 t291, .string (⟨#[]⟩ : ByteArray)]) ?_ 3 _ rfl; refine bx ?_; refine blk_put (cs := #[.int .i64 t289, .int .i64 t290, .int .u64 0, .string (⟨#[]⟩ : ByteArray)]) ?_ 2 _ rfl; refine bx ?_; refine blk_put (cs := #[.int .i64 t289, .int .i64 0, .int .u64 0, .string (⟨#[]⟩ : ByteArray)]) ?_ 1 _ rfl; refine bx ?_; refine blk_put (cs := #[.int .i64 0, .int .i64 0, .int .u64 0, .string (⟨#[]⟩ : ByteArray)]) ?_ 0 _ rfl; refine bx ?_; exact BK295.out) hb); replace HB := as_ (below_step bA hb); (try clear hb); (try clear hb2); (try clear hk); (try clear hi)) | (go_at_call 17; (with_reducible refine (col_Compare.calls k 4 0 0 (⟨#[]⟩ : ByteArray) 3 0 9 (⟨#[]⟩ : ByteArray) t297 _ A31.out).mono ?_); rintro e w77 ⟨rfl, hb⟩; replace BK260 := bb BK260 hb; replace BK267 := bb BK267 hb; replace BK274 := bb BK274 hb; replace BK281 := bb BK281 hb; replace BK288 := bb BK288 hb; replace BK295 := bb BK295 hb; replace HB := as_ (below_step bA hb); (try clear hb); (try clear hb2); (try clear hk); (try clear hi)) | (go_at_call 15; (with_reducible refine (col_Right.calls k 3 0 9 (⟨#[]⟩ : ByteArray) true _ A33.out).mono ?_); rintro e w78 ⟨rfl, hb⟩; replace BK260 := bb BK260 hb; replace BK267 := bb BK267 hb; replace BK274 := bb BK274 hb; replace BK281 := bb BK281 hb; replace BK288 := bb BK288 hb; replace BK295 := bb BK295 hb; replace HB := as_ (below_step bA hb); (try clear hb); (try clear hb2); (try clear hk); (try clear hi)) | (go_at_call 15; (with_reducible refine (col_Right.calls k 3 9 0 (⟨#[]⟩ : ByteArray) false _ A35.out).mono ?_); rintro e w79 ⟨rfl, hb⟩; replace BK260 := bb BK260 hb; replace BK267 := bb BK267 hb; replace BK274 := bb BK274 hb; replace BK281 := bb BK281 hb; replace BK288 := bb BK288 hb; replace BK295 := bb BK295 hb; replace HB := as_ (below_step bA hb); (try clear hb); (try clear hb2); (try clear hk); (try clear hi)))
 go_ret
 exact ⟨eW, by repeat (first | (with_reducible first | exact HB.out | apply below_alloc | apply pw_below_drewN | apply below_drew1 | refine below_set ?_ GE260.out | refine below_set ?_ GE267.out | refine below_set ?_ GE274.out | refine below_set ?_ GE281.out | refine below_set ?_ GE288.out | refine below_set ?_ GE295.out) | exact HB.out)⟩
end Go.Proofs.YtjfgeppfkhaliaaDoor.P
