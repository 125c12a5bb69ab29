/- What is proved here: for functions of the Go text, a Lean function each, and that the call comes to just what it answers. Conditions: as each contract names them. Written by wip/tools/myprint.py, a driver of the print of the kit. -/
import Derived.Test.YtjfgeppfkhaliaaDoorP0
import Derived.Test.YtjfgeppfkhaliaaDoorP3
import Derived.Test.YtjfgeppfkhaliaaDoorP4
import Derived.Test.YtjfgeppfkhaliaaDoorWAbbr
namespace Go.Proofs.YtjfgeppfkhaliaaDoor.P
open Go.RowKit Go.Proofs.YtjfgeppfkhaliaaDoorW.PrintWords Go.Proofs.YtjfgeppfkhaliaaDoorW.PrintLast Go.Proofs.YtjfgeppfkhaliaaDoorW.PrintMore Go.Proofs.YtjfgeppfkhaliaaDoorW.Abbr
-- PACKED
attribute [local go_sem] max2_int min2_int max_two min_two max_three min_three max_four min_four Go.Proofs.YtjfgeppfkhaliaaDoorLaws.str_leq Go.Proofs.YtjfgeppfkhaliaaDoorLaws.str_gtr Go.Proofs.YtjfgeppfkhaliaaDoorLaws.str_geq Go.Proofs.YtjfgeppfkhaliaaDoorLaws.max2_str Go.Proofs.YtjfgeppfkhaliaaDoorLaws.min2_str   -- for this text's walks alone
set_option linter.unusedVariables false
set_option linter.unusedSimpArgs false

/-! ### col_Get: function 13 -/
mutual
def col_Get.j0 : Nat → ByteArray → Int → Bool → Option (Int × Int × Int × ByteArray × Int × Int)
 | 0, _, _, _ => none
 | k + 1, x0, x1, x18 => if x18 = true then (some (0, 0, 0, (⟨#[]⟩ : ByteArray), 0, 4)) else (if x1 = (x0.size : Int) then (some (0, 0, 0, (⟨#[]⟩ : ByteArray), 0, 7)) else (if 0 ≤ x1 then (if x1 < (x0.size : Int) then (if (wrap64 (bt x0 x1)) = 16 then (some (wrap64 ((wrap64 (Int.tdiv (wrap64 (bt x0 x1)) 16)) - 1), 0, 0, (⟨#[]⟩ : ByteArray), wrap64 (x1 + 1), 0)) else (if (wrap64 (bt x0 x1)) = 32 then (col_Get.j1 k x0 (wrap64 (bt x0 x1)) (wrap64 (x1 + 1)) 0 (wrap64 (bt x0 x1)) ((wrap64 (bt x0 x1)) == 32) (wrap64 ((wrap64 (Int.tdiv (wrap64 (bt x0 x1)) 16)) - 1)) 0 0 (⟨#[]⟩ : ByteArray)) else (col_Get.j1 k x0 (wrap64 (bt x0 x1)) (wrap64 (x1 + 1)) 0 (wrap64 (bt x0 x1)) ((wrap64 (bt x0 x1)) == 33) (wrap64 ((wrap64 (Int.tdiv (wrap64 (bt x0 x1)) 16)) - 1)) 0 0 (⟨#[]⟩ : ByteArray)))) else (none)) else (none)))
def col_Get.j1 : Nat → ByteArray → Int → Int → Int → Int → Bool → Int → Int → Int → ByteArray → Option (Int × Int × Int × ByteArray × Int × Int)
 | 0, _, _, _, _, _, _, _, _, _, _ => none
 | k + 1, x0, x7, x9, x10, x35, x38, x190000, x190001, x190002, x190003 => if x38 = true then (if x10 = 0 then (some (x190000, x190001, IntKind.u64.wrap (Int.tmod x7 16), x190003, x9, 0)) else (some (0, 0, 0, (⟨#[]⟩ : ByteArray), 0, x10))) else (if x35 = 48 then ((col_integer.f k x0 x9).bind fun bt190 => (if bt190.2.2 = 0 then (some (x190000, bt190.1, x190002, x190003, bt190.2.1, 0)) else (some (0, 0, 0, (⟨#[]⟩ : ByteArray), 0, bt190.2.2)))) else (if x35 = 64 then ((word_Get.f k x0 x9).bind fun bt193 => (if bt193.2.2 = 0 then (some (x190000, x190001, bt193.1, x190003, bt193.2.1, 0)) else (some (0, 0, 0, (⟨#[]⟩ : ByteArray), 0, bt193.2.2)))) else (if x35 = 80 then ((col_text.f k x0 x9).bind fun bt196 => (if bt196.2.2 = 0 then (some (x190000, x190001, x190002, bt196.1, bt196.2.1, 0)) else (some (0, 0, 0, (⟨#[]⟩ : ByteArray), 0, bt196.2.2)))) else (some (0, 0, 0, (⟨#[]⟩ : ByteArray), 0, 3)))))
end
def col_Get.f (k : Nat) (a0 : ByteArray) (a1 : Int) : Option (Int × Int × Int × ByteArray × Int × Int) := if a1 < 0 then (col_Get.j0 k a0 a1 true) else (col_Get.j0 k a0 a1 (decide (a1 > (a0.size : Int))))
theorem col_Get.mono_l : ∀ k, (∀ y0 y1 y2, LeO (col_Get.j0 k y0 y1 y2) (col_Get.j0 (k + 1) y0 y1 y2)) ∧ (∀ y0 y1 y2 y3 y4 y5 y6 y7 y8 y9, LeO (col_Get.j1 k y0 y1 y2 y3 y4 y5 y6 y7 y8 y9) (col_Get.j1 (k + 1) y0 y1 y2 y3 y4 y5 y6 y7 y8 y9))
 | 0 => ⟨fun _ _ _ r h => by simp [col_Get.j0] at h, fun _ _ _ _ _ _ _ _ _ _ r h => by simp [col_Get.j1] at h⟩
 | k + 1 => by
  obtain ⟨ih0, ih1⟩ := col_Get.mono_l k
  refine ⟨?_, ?_⟩
  ·intro y0 y1 y2
   unfold col_Get.j0
   repeat' first
   | (with_reducible exact ih0 _ _ _)
   | (with_reducible exact ih1 _ _ _ _ _ _ _ _ _ _)
   | (with_reducible exact col_integer.mono _ _ _)
   | (with_reducible exact col_text.mono _ _ _)
   | (with_reducible exact word_Get.mono _ _ _)
   | (with_reducible exact LeO.refl _)
   | (with_reducible exact LeO.none _)
   | (with_reducible refine LeO.ite ?_ ?_)
   | (with_reducible refine LeO.bind ?_ (fun _ => ?_))
   | exact ih0 _ _ _
   | exact ih1 _ _ _ _ _ _ _ _ _ _
   | exact col_integer.mono _ _ _
   | exact col_text.mono _ _ _
   | exact word_Get.mono _ _ _
   | exact LeO.none _
   | refine LeO.ite ?_ ?_
   | refine LeO.bind ?_ (fun _ => ?_)
  ·intro y0 y1 y2 y3 y4 y5 y6 y7 y8 y9
   unfold col_Get.j1
   repeat' first
   | (with_reducible exact ih0 _ _ _)
   | (with_reducible exact ih1 _ _ _ _ _ _ _ _ _ _)
   | (with_reducible exact col_integer.mono _ _ _)
   | (with_reducible exact col_text.mono _ _ _)
   | (with_reducible exact word_Get.mono _ _ _)
   | (with_reducible exact LeO.refl _)
   | (with_reducible exact LeO.none _)
   | (with_reducible refine LeO.ite ?_ ?_)
   | (with_reducible refine LeO.bind ?_ (fun _ => ?_))
   | exact ih0 _ _ _
   | exact ih1 _ _ _ _ _ _ _ _ _ _
   | exact col_integer.mono _ _ _
   | exact col_text.mono _ _ _
   | exact word_Get.mono _ _ _
   | exact LeO.none _
   | refine LeO.ite ?_ ?_
   | refine LeO.bind ?_ (fun _ => ?_)
theorem col_Get.mono : ∀ a0 a1 k, LeO (col_Get.f k a0 a1) (col_Get.f (k + 1) a0 a1) := by
 intro a0 a1 k
 obtain ⟨ih0, ih1⟩ := col_Get.mono_l k
 unfold col_Get.f
 repeat' first
   | (with_reducible exact ih0 _ _ _)
   | (with_reducible exact ih1 _ _ _ _ _ _ _ _ _ _)
   | (with_reducible exact col_integer.mono _ _ _)
   | (with_reducible exact col_text.mono _ _ _)
   | (with_reducible exact word_Get.mono _ _ _)
   | (with_reducible exact LeO.refl _)
   | (with_reducible exact LeO.none _)
   | (with_reducible refine LeO.ite ?_ ?_)
   | (with_reducible refine LeO.bind ?_ (fun _ => ?_))
   | exact ih0 _ _ _
   | exact ih1 _ _ _ _ _ _ _ _ _ _
   | exact col_integer.mono _ _ _
   | exact col_text.mono _ _ _
   | exact word_Get.mono _ _ _
   | exact LeO.none _
   | refine LeO.ite ?_ ?_
   | refine LeO.bind ?_ (fun _ => ?_)
set_option maxHeartbeats 8000000 in
set_option maxRecDepth 100000 in
theorem col_Get.calls (k : Nat) (a0 : ByteArray) (a1 : Int) (r1 : Int) (r2 : Int) (r3 : Int) (r4 : ByteArray) (r5 : Int) (r6 : Int) (w : World) (h : col_Get.f k a0 a1 = some (r1, r2, r3, r4, r5, r6)) :
  Calls Tryd.prog 13 #[.string a0, .int .i64 a1] w fun e w' => e = .returned (.tuple #[.agg #[.int .i64 r1, .int .i64 r2, .int .u64 r3, .string r4], .int .i64 r5, .int .i64 r6]) ∧ Below w.heap.size w w' := by
 have hu24 := Tryd.underlying24
 have HB := as_ (Below.refl w.heap.size w)
 have H : (if a1 < 0 then (col_Get.j0 k a0 a1 true) else (col_Get.j0 k a0 a1 (decide (a1 > (a0.size : Int))))) = some (r1, r2, r3, r4, r5, r6) := h
 clear h
 have HC3 := Aside0.mk H
 clear H
 go_enter Tryd.func13, Tryd.ntmps13
 go_upto_region 1 with (first | ((with_reducible refine gate_dst (N := 4) rfl ?_); (try (refine gate_guard (by rfl) ?_; dsimp only)); refine box_event ?hg (N := 4) ?hd (cs := #[.int .i64 0, .int .i64 0, .int .u64 0, .string (⟨#[]⟩ : ByteArray)]) (t := 24) ?hr ?_; (case hd => rfl); (case hg => rfl); (case hr => first | (go_simp; done) | (go_simp; rfl)); intro gb188 hg w4 hbox hb; have BK188 := as_ (hbox); have GW188 := gw hg bA; have GE188 := gw hg bA; replace HB := as_ (below_step bA hb); clear hb hbox hg))
 (try simp only [Act.put, List.setIfInBounds_toArray, List.set_cons_zero, List.set_cons_succ])
 go_cut [18] (fun v18 wc => ∃ (kq : Nat) (x18_2 : Bool), v18 = .bool x18_2 ∧ Aside0 (col_Get.j0 kq a0 a1 x18_2 = some (r1, r2, r3, r4, r5, r6)) ∧ Aside0 (kq ≤ k) ∧ Aside0 (wc.heap[gb188]? = some (.cells #[.int .i64 0, .int .i64 0, .int .u64 0, .string (⟨#[]⟩ : ByteArray)] 24 (0, 0))) ∧ Aside0 (Below w.heap.size w wc))
 case first =>
  have H := HC3.out
  clear HC3
  by_cases c5 : a1 < 0
  rotate_left
  ·rw [if_neg c5] at H
   have c5b0 : decide (a1 < 0) = false := decide_eq_false c5
   clear c5
   (first | rw [c5b0] | (simp only [i64_w, i32_w]; rw [c5b0]) | rw [c5b1] | skip)
   have H' := Aside0.mk H
   clear H
   go_wp2
   go_meet
   case rel => exact ⟨_, (decide (a1 > (a0.size : Int))), (by first | rfl | (simp; done) | (simp [*]; done)), H', ⟨by first | omega | exact Nat.le_refl _⟩, ⟨by refine bx ?_; exact BK188.out⟩, ⟨by repeat (first | (with_reducible first | exact HB.out | apply below_alloc | apply pw_below_drewN | apply below_drew1 | refine below_set ?_ GE188.out) | exact HB.out)⟩⟩
  rw [if_pos c5] at H
  have c5b0 : decide (a1 < 0) = true := decide_eq_true c5
  clear c5
  (first | rw [c5b0] | (simp only [i64_w, i32_w]; rw [c5b0]) | rw [c5b1] | skip)
  have H' := Aside0.mk H
  clear H
  go_wp2
  go_meet
  case rel => exact ⟨_, (true), (by first | rfl | (simp; done) | (simp [*]; done)), H', ⟨by first | omega | exact Nat.le_refl _⟩, ⟨by refine bx ?_; exact BK188.out⟩, ⟨by repeat (first | (with_reducible first | exact HB.out | apply below_alloc | apply pw_below_drewN | apply below_drew1 | refine below_set ?_ GE188.out) | exact HB.out)⟩⟩
 case rest =>
  clear HC3
  try clear c1
  try clear p2
  try clear c5
  try clear c5b0
  try clear c5b1
  obtain ⟨kq, x18_2, rfl, HA, HJ2, BK188, HB⟩ := hcut
  cases kq with
  | zero => exact absurd HA.out (by simp [col_Get.j0])
  | succ kj2 =>
   have H := HA.out
   clear HA
   simp only [col_Get.j0] at H
   by_cases c6 : x18_2 = true
   ·subst c6
    have H1 : (some (0, 0, 0, (⟨#[]⟩ : ByteArray), 0, 4)) = some (r1, r2, r3, r4, r5, r6) := by rw [if_pos rfl] at H; exact H
    clear H
    have H := H1
    clear H1
    simp only [Option.some.injEq, Prod.mk.injEq] at H
    obtain ⟨rfl, rfl, rfl, rfl, rfl, rfl⟩ := H
    obtain ⟨hcz7_0, hcz7_1, hcz7_2, hcz7_3⟩ := zc4 BK188
    obtain ⟨hfz7_0, hfz7_1, hfz7_2, hfz7_3⟩ := zf4 BK188
    go_wp2
    refine bodyPost_ret (results_ctt rfl _ _ gb188 24 #[.int .i64 0, .int .i64 0, .int .u64 0, .string (⟨#[]⟩ : ByteArray)] (0, 0) _ rfl (by refine bx ?_; refine blk_put (cs := #[.int .i64 0, .int .i64 0, .int .u64 0, .string (⟨#[]⟩ : ByteArray)]) ?_ 3 _ rfl; refine bx ?_; refine blk_put (cs := #[.int .i64 0, .int .i64 0, .int .u64 0, .string (⟨#[]⟩ : ByteArray)]) ?_ 2 _ rfl; refine bx ?_; refine blk_put (cs := #[.int .i64 0, .int .i64 0, .int .u64 0, .string (⟨#[]⟩ : ByteArray)]) ?_ 1 _ rfl; refine bx ?_; refine blk_put (cs := #[.int .i64 0, .int .i64 0, .int .u64 0, .string (⟨#[]⟩ : ByteArray)]) ?_ 0 _ rfl; refine bx ?_; exact BK188.out) Tryd.underlying24 rfl (by kernel_rfl)) rfl ?_
    exact ⟨eW, by repeat (first | (with_reducible first | exact HB.out | apply below_alloc | apply pw_below_drewN | apply below_drew1 | refine below_set ?_ GE188.out) | exact HB.out)⟩
   replace c6 := Bool.eq_false_iff.mpr c6
   subst c6
   have H1 : (if a1 = (a0.size : Int) then (some (0, 0, 0, (⟨#[]⟩ : ByteArray), 0, 7)) else (if 0 ≤ a1 then (if a1 < (a0.size : Int) then (if (wrap64 (bt a0 a1)) = 16 then (some (wrap64 ((wrap64 (Int.tdiv (wrap64 (bt a0 a1)) 16)) - 1), 0, 0, (⟨#[]⟩ : ByteArray), wrap64 (a1 + 1), 0)) else (if (wrap64 (bt a0 a1)) = 32 then (col_Get.j1 kj2 a0 (wrap64 (bt a0 a1)) (wrap64 (a1 + 1)) 0 (wrap64 (bt a0 a1)) ((wrap64 (bt a0 a1)) == 32) (wrap64 ((wrap64 (Int.tdiv (wrap64 (bt a0 a1)) 16)) - 1)) 0 0 (⟨#[]⟩ : ByteArray)) else (col_Get.j1 kj2 a0 (wrap64 (bt a0 a1)) (wrap64 (a1 + 1)) 0 (wrap64 (bt a0 a1)) ((wrap64 (bt a0 a1)) == 33) (wrap64 ((wrap64 (Int.tdiv (wrap64 (bt a0 a1)) 16)) - 1)) 0 0 (⟨#[]⟩ : ByteArray)))) else (none)) else (none))) = some (r1, r2, r3, r4, r5, r6) := by rw [if_neg (show ¬ (false = true) by decide)] at H; exact H
   clear H
   have H := H1
   clear H1
   by_cases c8 : a1 = (a0.size : Int)
   ·rw [if_pos c8] at H
    have c8b0 : (a1 == (a0.size : Int)) = true := beq_iff_eq.mpr c8
    have c8b1 : (a1 != (a0.size : Int)) = false := bne_eq_false_iff_eq.mpr c8
    clear c8
    simp only [Option.some.injEq, Prod.mk.injEq] at H
    obtain ⟨rfl, rfl, rfl, rfl, rfl, rfl⟩ := H
    obtain ⟨hcz9_0, hcz9_1, hcz9_2, hcz9_3⟩ := zc4 BK188
    obtain ⟨hfz9_0, hfz9_1, hfz9_2, hfz9_3⟩ := zf4 BK188
    go_wp2
    refine bodyPost_ret (results_ctt rfl _ _ gb188 24 #[.int .i64 0, .int .i64 0, .int .u64 0, .string (⟨#[]⟩ : ByteArray)] (0, 0) _ rfl (by refine bx ?_; refine blk_put (cs := #[.int .i64 0, .int .i64 0, .int .u64 0, .string (⟨#[]⟩ : ByteArray)]) ?_ 3 _ rfl; refine bx ?_; refine blk_put (cs := #[.int .i64 0, .int .i64 0, .int .u64 0, .string (⟨#[]⟩ : ByteArray)]) ?_ 2 _ rfl; refine bx ?_; refine blk_put (cs := #[.int .i64 0, .int .i64 0, .int .u64 0, .string (⟨#[]⟩ : ByteArray)]) ?_ 1 _ rfl; refine bx ?_; refine blk_put (cs := #[.int .i64 0, .int .i64 0, .int .u64 0, .string (⟨#[]⟩ : ByteArray)]) ?_ 0 _ rfl; refine bx ?_; exact BK188.out) Tryd.underlying24 rfl (by kernel_rfl)) rfl ?_
    exact ⟨eW, by repeat (first | (with_reducible first | exact HB.out | apply below_alloc | apply pw_below_drewN | apply below_drew1 | refine below_set ?_ GE188.out) | exact HB.out)⟩
   rw [if_neg c8] at H
   have c8b0 : (a1 == (a0.size : Int)) = false := beq_eq_false_iff_ne.mpr c8
   have c8b1 : (a1 != (a0.size : Int)) = true := bne_iff_ne.mpr c8
   by_cases c10 : 0 ≤ a1
   rotate_left
   ·rw [if_neg c10] at H
    exact absurd H (by simp)
 
   rw [if_pos c10] at H
   have c10b0 : decide (0 ≤ a1) = true := decide_eq_true c10
   clear c10
   by_cases c11 : a1 < (a0.size : Int)
   rotate_left
   ·rw [if_neg c11] at H
    exact absurd H (by simp)
   rw [if_pos c11] at H
   have c11b0 : decide (a1 < (a0.size : Int)) = true := decide_eq_true c11
   clear c11
   by_cases c13 : (wrap64 (bt a0 a1)) = 16
   ·rw [if_pos c13] at H
    have c13b0 : ((wrap64 (bt a0 a1)) == 16) = true := beq_iff_eq.mpr c13
    have c13b1 : ((wrap64 (bt a0 a1)) != 16) = false := bne_eq_false_iff_eq.mpr c13
    clear c13
    simp only [Option.some.injEq, Prod.mk.injEq] at H
    obtain ⟨rfl, rfl, rfl, rfl, rfl, rfl⟩ := H
    have p12 : 0 ≤ (a1 : Int) := of_decide_eq_true aM
    have q12 : a1 < (a0.size : Int) := of_decide_eq_true aM
    have hx12 := bt_at a0 a1
    replace p12 := eq_true p12
    replace q12 := eq_true q12
    go_wp2_with (first | ((with_reducible refine gate_dst (N := 8) rfl ?_); (try (refine gate_guard (by rfl) ?_; dsimp only)); refine box_event ?hg (N := 8) ?hd (cs := #[.int .i64 0, .int .i64 0, .int .u64 0, .string (⟨#[]⟩ : ByteArray)]) (t := 24) ?hr ?_; (case hd => rfl); (case hg => rfl); (case hr => first | (go_simp; done) | (go_simp; rfl)); intro gb189 hg w14 hbox hb; have BK189 := as_ (hbox); have GW189 := gw hg bA; have GE189 := gw hg bA; have NB188_189 := as_ ((by rw [hg]; exact Nat.ne_of_lt (blk_lt (g := gb188) (o := .cells #[.int .i64 0, .int .i64 0, .int .u64 0, .string (⟨#[]⟩ : ByteArray)] 24 (0, 0)) (bk BK188)) : gb188 ≠ gb189)); have NB189_188 := as_ ((by rw [hg]; exact Nat.ne_of_gt (blk_lt (g := gb188) (o := .cells #[.int .i64 0, .int .i64 0, .int .u64 0, .string (⟨#[]⟩ : ByteArray)] 24 (0, 0)) (bk BK188)) : gb189 ≠ gb188)); replace BK188 := as_ (blk_below (g := gb188) (o := .cells #[.int .i64 0, .int .i64 0, .int .u64 0, .string (⟨#[]⟩ : ByteArray)] 24 (0, 0)) (bk BK188) hb); replace HB := as_ (below_step bA hb); clear hb hbox hg; have hnb15 := NB189_188.out; have hnc15 := NB188_189.out; obtain ⟨hcz16_0, hcz16_1, hcz16_2, hcz16_3⟩ := zc4 BK189; obtain ⟨hfz16_0, hfz16_1, hfz16_2, hfz16_3⟩ := zf4 BK189; obtain ⟨hcz17_0, hcz17_1, hcz17_2, hcz17_3⟩ := zc4 BK188; obtain ⟨hfz17_0, hfz17_1, hfz17_2, hfz17_3⟩ := zf4 BK188))
    refine bodyPost_ret (results_ctt rfl _ _ gb188 24 #[.int .i64 (wrap64 ((wrap64 (Int.tdiv (wrap64 (bt a0 a1)) 16)) - 1)), .int .i64 0, .int .u64 0, .string (⟨#[]⟩ : ByteArray)] (0, 0) _ rfl (by refine bx ?_; refine blk_put (cs := #[.int .i64 (wrap64 ((wrap64 (Int.tdiv (wrap64 (bt a0 a1)) 16)) - 1)), .int .i64 0, .int .u64 0, .string (⟨#[]⟩ : ByteArray)]) ?_ 3 _ rfl; refine bx ?_; refine blk_put (cs := #[.int .i64 (wrap64 ((wrap64 (Int.tdiv (wrap64 (bt a0 a1)) 16)) - 1)), .int .i64 0, .int .u64 0, .string (⟨#[]⟩ : ByteArray)]) ?_ 2 _ rfl; refine bx ?_; refine blk_put (cs := #[.int .i64 (wrap64 ((wrap64 (Int.tdiv (wrap64 (bt a0 a1)) 16)) - 1)), .int .i64 0, .int .u64 0, .string (⟨#[]⟩ : ByteArray)]) ?_ 1 _ rfl; refine bx ?_; refine blk_put (cs := #[.int .i64 0, .int .i64 0, .int .u64 0, .string (⟨#[]⟩ : ByteArray)]) ?_ 0 _ rfl; refine bx ?_; refine blk_far ?_ NB188_189.out _; refine bx ?_; refine blk_far ?_ NB188_189.out _; refine bx ?_; refine blk_far ?_ NB188_189.out _; refine bx ?_; refine blk_far ?_ NB188_189.out _; refine bx ?_; exact BK188.out) Tryd.underlying24 rfl (by kernel_rfl)) rfl ?_
    exact ⟨eW, by repeat (first | (with_reducible first | exact HB.out | apply below_alloc | apply pw_below_drewN | apply below_drew1 | refine below_set ?_ GE188.out | refine below_set ?_ GE189.out) | exact HB.out)⟩
   rw [if_neg c13] at H
   have c13b0 : ((wrap64 (bt a0 a1)) == 16) = false := beq_eq_false_iff_ne.mpr c13
   have c13b1 : ((wrap64 (bt a0 a1)) != 16) = true := bne_iff_ne.mpr c13
   have HC18 := Aside0.mk H
   clear H
   have p12 : 0 ≤ (a1 : Int) := of_decide_eq_true aM
   have q12 : a1 < (a0.size : Int) := of_decide_eq_true aM
   have hx12 := bt_at a0 a1
   replace p12 := eq_true p12
   replace q12 := eq_true q12
   go_upto_if 38 with (first | ((with_reducible refine gate_dst (N := 8) rfl ?_); (try (refine gate_guard (by rfl) ?_; dsimp only)); refine box_event ?hg (N := 8) ?hd (cs := #[.int .i64 0, .int .i64 0, .int .u64 0, .string (⟨#[]⟩ : ByteArray)]) (t := 24) ?hr ?_; (case hd => rfl); (case hg => rfl); (case hr => first | (go_simp; done) | (go_simp; rfl)); intro gb189 hg w19 hbox hb; have BK189 := as_ (hbox); have GW189 := gw hg bA; have GE189 := gw hg bA; have NB188_189 := as_ ((by rw [hg]; exact Nat.ne_of_lt (blk_lt (g := gb188) (o := .cells #[.int .i64 0, .int .i64 0, .int .u64 0, .string (⟨#[]⟩ : ByteArray)] 24 (0, 0)) (bk BK188)) : gb188 ≠ gb189)); have NB189_188 := as_ ((by rw [hg]; exact Nat.ne_of_gt (blk_lt (g := gb188) (o := .cells #[.int .i64 0, .int .i64 0, .int .u64 0, .string (⟨#[]⟩ : ByteArray)] 24 (0, 0)) (bk BK188)) : gb189 ≠ gb188)); replace BK188 := as_ (blk_below (g := gb188) (o := .cells #[.int .i64 0, .int .i64 0, .int .u64 0, .string (⟨#[]⟩ : ByteArray)] 24 (0, 0)) (bk BK188) hb); replace HB := as_ (below_step bA hb); clear hb hbox hg; have hnb20 := NB189_188.out; have hnc20 := NB188_189.out; obtain ⟨hcz21_0, hcz21_1, hcz21_2, hcz21_3⟩ := zc4 BK189; obtain ⟨hfz21_0, hfz21_1, hfz21_2, hfz21_3⟩ := zf4 BK189))
   (try simp only [Act.put, List.setIfInBounds_toArray, List.set_cons_zero, List.set_cons_succ])
   go_cut [38] (fun v38 wc => ∃ (kq : Nat) (x38_17 : Bool), v38 = .bool x38_17 ∧ Aside0 (col_Get.j1 kq a0 (wrap64 (bt a0 a1)) (wrap64 (a1 + 1)) 0 (wrap64 (bt a0 a1)) x38_17 (wrap64 ((wrap64 (Int.tdiv (wrap64 (bt a0 a1)) 16)) - 1)) 0 0 (⟨#[]⟩ : ByteArray) = some (r1, r2, r3, r4, r5, r6)) ∧ Aside0 (kq ≤ kj2) ∧ Aside0 (wc.heap[gb188]? = some (.cells #[.int .i64 0, .int .i64 0, .int .u64 0, .string (⟨#[]⟩ : ByteArray)] 24 (0, 0))) ∧ Aside0 (wc.heap[gb189]? = some (.cells #[.int .i64 (wrap64 ((wrap64 (Int.tdiv (wrap64 (bt a0 a1)) 16)) - 1)), .int .i64 0, .int .u64 0, .string (⟨#[]⟩ : ByteArray)] 24 (0, 0))) ∧ Aside0 (Below w.heap.size w wc))
   case first =>
    have H := HC18.out
    clear HC18
    by_cases c22 : (wrap64 (bt a0 a1)) = 32
    rotate_left
    ·rw [if_neg c22] at H
     have c22b0 : ((wrap64 (bt a0 a1)) == 32) = false := beq_eq_false_iff_ne.mpr c22
     have c22b1 : ((wrap64 (bt a0 a1)) != 32) = true := bne_iff_ne.mpr c22
     (first | rw [c22b0] | (simp only [i64_w, i32_w]; rw [c22b0]) | rw [c22b1] | skip)
     have H' := Aside0.mk H
     clear H
     go_wp2
     go_meet
     case rel => exact ⟨_, (((wrap64 (bt a0 a1)) == 33)), (by first | rfl | (simp; done) | (simp [*]; done)), H', ⟨by have := HJ2.out; first | omega | exact Nat.le_refl _⟩, ⟨by refine bx ?_; refine blk_far ?_ NB188_189.out _; refine bx ?_; refine blk_far ?_ NB188_189.out _; refine bx ?_; refine blk_far ?_ NB188_189.out _; refine bx ?_; refine blk_far ?_ NB188_189.out _; refine bx ?_; exact BK188.out⟩, ⟨by refine bx ?_; refine blk_put (cs := #[.int .i64 (wrap64 ((wrap64 (Int.tdiv (wrap64 (bt a0 a1)) 16)) - 1)), .int .i64 0, .int .u64 0, .string (⟨#[]⟩ : ByteArray)]) ?_ 3 _ rfl; refine bx ?_; refine blk_put (cs := #[.int .i64 (wrap64 ((wrap64 (Int.tdiv (wrap64 (bt a0 a1)) 16)) - 1)), .int .i64 0, .int .u64 0, .string (⟨#[]⟩ : ByteArray)]) ?_ 2 _ rfl; refine bx ?_; refine blk_put (cs := #[.int .i64 (wrap64 ((wrap64 (Int.tdiv (wrap64 (bt a0 a1)) 16)) - 1)), .int .i64 0, .int .u64 0, .string (⟨#[]⟩ : ByteArray)]) ?_ 1 _ rfl; refine bx ?_; refine blk_put (cs := #[.int .i64 0, .int .i64 0, .int .u64 0, .string (⟨#[]⟩ : ByteArray)]) ?_ 0 _ rfl; refine bx ?_; exact BK189.out⟩, ⟨by repeat (first | (with_reducible first | exact HB.out | apply below_alloc | apply pw_below_drewN | apply below_drew1 | refine below_set ?_ GE188.out | refine below_set ?_ GE189.out) | exact HB.out)⟩⟩
    rw [if_pos c22] at H
    have c22b0 : ((wrap64 (bt a0 a1)) == 32) = true := beq_iff_eq.mpr c22
    have c22b1 : ((wrap64 (bt a0 a1)) != 32) = false := bne_eq_false_iff_eq.mpr c22
    clear c22
    (first | rw [c22b0] | (simp only [i64_w, i32_w]; rw [c22b0]) | rw [c22b1] | skip)
    have H' := Aside0.mk H
    clear H
    go_wp2
    go_meet
    case rel => exact ⟨_, (((wrap64 (bt a0 a1)) == 32)), (by first | rfl | (simp; done) | (simp [*]; done)), H', ⟨by have := HJ2.out; first | omega | exact Nat.le_refl _⟩, ⟨by refine bx ?_; refine blk_far ?_ NB188_189.out _; refine bx ?_; refine blk_far ?_ NB188_189.out _; refine bx ?_; refine blk_far ?_ NB188_189.out _; refine bx ?_; refine blk_far ?_ NB188_189.out _; refine bx ?_; exact BK188.out⟩, ⟨by refine bx ?_; refine blk_put (cs := #[.int .i64 (wrap64 ((wrap64 (Int.tdiv (wrap64 (bt a0 a1)) 16)) - 1)), .int .i64 0, .int .u64 0, .string (⟨#[]⟩ : ByteArray)]) ?_ 3 _ rfl; refine bx ?_; refine blk_put (cs := #[.int .i64 (wrap64 ((wrap64 (Int.tdiv (wrap64 (bt a0 a1)) 16)) - 1)), .int .i64 0, .int .u64 0, .string (⟨#[]⟩ : ByteArray)]) ?_ 2 _ rfl; refine bx ?_; refine blk_put (cs := #[.int .i64 (wrap64 ((wrap64 (Int.tdiv (wrap64 (bt a0 a1)) 16)) - 1)), .int .i64 0, .int .u64 0, .string (⟨#[]⟩ : ByteArray)]) ?_ 1 _ rfl; refine bx ?_; refine blk_put (cs := #[.int .i64 0, .int .i64 0, .int .u64 0, .string (⟨#[]⟩ : ByteArray)]) ?_ 0 _ rfl; refine bx ?_; exact BK189.out⟩, ⟨by repeat (first | (with_reducible first | exact HB.out | apply below_alloc | apply pw_below_drewN | apply below_drew1 | refine below_set ?_ GE188.out | refine below_set ?_ GE189.out) | exact HB.out)⟩⟩
   case rest =>
    clear HC18
    try clear c1
    try clear p1
    try clear q1
    try clear hx1
    try clear c2
    try clear p2
    try clear c5
    try clear c5b0
    try clear c5b1
    try clear c6
    try clear p6
    try clear c8
    try clear c8b0
    try clear c8b1
    try clear c10
    try clear c10b0
    try clear c11
    try clear c11b0
    try clear p12
    try clear q12
    try clear hx12
    try clear c13
    try clear c13b0
    try clear c13b1
    try clear c15
    try clear c20
    try clear c22
    try clear c22b0
    try clear c22b1
    try clear hcz16_0
    try clear hcz16_1
    try clear hcz16_2
    try clear hcz16_3
    try clear hcz17_0
    try clear hcz17_1
    try clear hcz17_2
    try clear hcz17_3
    try clear hcz21_0
    try clear hcz21_1
    try clear hcz21_2
    try clear hcz21_3
    try clear hcz7_0
    try clear hcz7_1
    try clear hcz7_2
    try clear hcz7_3
    try clear hcz9_0
    try clear hcz9_1
    try clear hcz9_2
    try clear hcz9_3
    try clear hfz16_0
    try clear hfz16_1
    try clear hfz16_2
    try clear hfz16_3
    try clear hfz17_0
    try clear hfz17_1
    try clear hfz17_2
    try clear hfz17_3
    try clear hfz21_0
    try clear hfz21_1
    try clear hfz21_2
    try clear hfz21_3
    try clear hfz7_0
    try clear hfz7_1
    try clear hfz7_2
    try clear hfz7_3
    try clear hfz9_0
    try clear hfz9_1
    try clear hfz9_2
    try clear hfz9_3
    try clear p12
    try clear p2
    try clear q12
    obtain ⟨kq, x38_17, rfl, HA, HJ17, BK188, BK189, HB⟩ := hcut
    cases kq with
    | zero => exact absurd HA.out (by simp [col_Get.j1])
    | succ kj17 =>
     have H := HA.out
     clear HA
     simp only [col_Get.j1] at H
     by_cases c23 : x38_17 = true
     ·subst c23
      have H1 : (if 0 = 0 then (some ((wrap64 ((wrap64 (Int.tdiv (wrap64 (bt a0 a1)) 16)) - 1)), 0, IntKind.u64.wrap (Int.tmod (wrap64 (bt a0 a1)) 16), (⟨#[]⟩ : ByteArray), (wrap64 (a1 + 1)), 0)) else (some (0, 0, 0, (⟨#[]⟩ : ByteArray), 0, 0))) = some (r1, r2, r3, r4, r5, r6) := by rw [if_pos rfl] at H; exact H
      clear H
      have H := H1
      clear H1
      by_cases c24 : 0 = 0
      rotate_left
      ·exact absurd rfl c24
      rw [if_pos c24] at H
      have c24b0 : (0 == 0) = true := beq_iff_eq.mpr c24
      have c24b1 : (0 != 0) = false := bne_eq_false_iff_eq.mpr c24
      clear c24
      simp only [Option.some.injEq, Prod.mk.injEq] at H
      obtain ⟨rfl, rfl, rfl, rfl, rfl, rfl⟩ := H
      have hnb25 := NB189_188.out
      have hnc25 := NB188_189.out
      obtain ⟨hcz26_0, hcz26_1, hcz26_2, hcz26_3⟩ := zc4 BK189
      obtain ⟨hfz26_0, hfz26_1, hfz26_2, hfz26_3⟩ := zf4 BK189
      obtain ⟨hcz27_0, hcz27_1, hcz27_2, hcz27_3⟩ := zc4 BK188
      obtain ⟨hfz27_0, hfz27_1, hfz27_2, hfz27_3⟩ := zf4 BK188
      go_wp2
      refine bodyPost_ret (results_ctt rfl _ _ gb188 24 #[.int .i64 (wrap64 ((wrap64 (Int.tdiv (wrap64 (bt a0 a1)) 16)) - 1)), .int .i64 0, .int .u64 (IntKind.u64.wrap (Int.tmod (wrap64 (bt a0 a1)) 16)), .string (⟨#[]⟩ : ByteArray)] (0, 0) _ rfl (by refine bx ?_; refine blk_put (cs := #[.int .i64 (wrap64 ((wrap64 (Int.tdiv (wrap64 (bt a0 a1)) 16)) - 1)), .int .i64 0, .int .u64 (IntKind.u64.wrap (Int.tmod (wrap64 (bt a0 a1)) 16)), .string (⟨#[]⟩ : ByteArray)]) ?_ 3 _ rfl; refine bx ?_; refine blk_put (cs := #[.int .i64 (wrap64 ((wrap64 (Int.tdiv (wrap64 (bt a0 a1)) 16)) - 1)), .int .i64 0, .int .u64 0, .string (⟨#[]⟩ : ByteArray)]) ?_ 2 _ rfl; refine bx ?_; refine blk_put (cs := #[.int .i64 (wrap64 ((wrap64 (Int.tdiv (wrap64 (bt a0 a1)) 16)) - 1)), .int .i64 0, .int .u64 0, .string (⟨#[]⟩ : ByteArray)]) ?_ 1 _ rfl; refine bx ?_; refine blk_put (cs := #[.int .i64 0, .int .i64 0, .int .u64 0, .string (⟨#[]⟩ : ByteArray)]) ?_ 0 _ rfl; refine bx ?_; refine blk_far ?_ NB188_189.out _; refine bx ?_; exact BK188.out) Tryd.underlying24 rfl (by kernel_rfl)) rfl ?_
      exact ⟨eW, by repeat (first | (with_reducible first | exact HB.out | apply below_alloc | apply pw_below_drewN | apply below_drew1 | refine below_set ?_ GE188.out | refine below_set ?_ GE189.out) | exact HB.out)⟩
     replace c23 := Bool.eq_false_iff.mpr c23
     subst c23
     have H1 : (if (wrap64 (bt a0 a1)) = 48 then ((col_integer.f kj17 a0 (wrap64 (a1 + 1))).bind fun bt190 => (if bt190.2.2 = 0 then (some ((wrap64 ((wrap64 (Int.tdiv (wrap64 (bt a0 a1)) 16)) - 1)), bt190.1, 0, (⟨#[]⟩ : ByteArray), bt190.2.1, 0)) else (some (0, 0, 0, (⟨#[]⟩ : ByteArray), 0, bt190.2.2)))) else (if (wrap64 (bt a0 a1)) = 64 then ((word_Get.f kj17 a0 (wrap64 (a1 + 1))).bind fun bt193 => (if bt193.2.2 = 0 then (some ((wrap64 ((wrap64 (Int.tdiv (wrap64 (bt a0 a1)) 16)) - 1)), 0, bt193.1, (⟨#[]⟩ : ByteArray), bt193.2.1, 0)) else (some (0, 0, 0, (⟨#[]⟩ : ByteArray), 0, bt193.2.2)))) else (if (wrap64 (bt a0 a1)) = 80 then ((col_text.f kj17 a0 (wrap64 (a1 + 1))).bind fun bt196 => (if bt196.2.2 = 0 then (some ((wrap64 ((wrap64 (Int.tdiv (wrap64 (bt a0 a1)) 16)) - 1)), 0, 0, bt196.1, bt196.2.1, 0)) else (some (0, 0, 0, (⟨#[]⟩ : ByteArray), 0, bt196.2.2)))) else (some (0, 0, 0, (⟨#[]⟩ : ByteArray), 0, 3))))) = some (r1, r2, r3, r4, r5, r6) := by rw [if_neg (show ¬ (false = true) by decide)] at H; exact H
     clear H
     have H := H1
     clear H1
     by_cases c31 : (wrap64 (bt a0 a1)) = 48
     ·rw [if_pos c31] at H
      have c31b0 : ((wrap64 (bt a0 a1)) == 48) = true := beq_iff_eq.mpr c31
      have c31b1 : ((wrap64 (bt a0 a1)) != 48) = false := bne_eq_false_iff_eq.mpr c31
      clear c31
      replace H := bM H
      obtain ⟨⟨t190, t191, t192⟩, A320, H⟩ := H
      replace H : (if t192 = 0 then (some ((wrap64 ((wrap64 (Int.tdiv (wrap64 (bt a0 a1)) 16)) - 1)), t190, 0, (⟨#[]⟩ : ByteArray), t191, 0)) else (some (0, 0, 0, (⟨#[]⟩ : ByteArray), 0, t192))) = some (r1, r2, r3, r4, r5, r6) := H
      have A32 := Aside0.mk A320
      clear A320
      by_cases c33 : t192 = 0
      rotate_left
      ·rw [if_neg c33] at H
       have c33b0 : (t192 == 0) = false := beq_eq_false_iff_ne.mpr c33
       have c33b1 : (t192 != 0) = true := bne_iff_ne.mpr c33
       simp only [Option.some.injEq, Prod.mk.injEq] at H
       obtain ⟨rfl, rfl, rfl, rfl, rfl, rfl⟩ := H
       go_wp2_with (first | ((with_reducible refine gate_callee (f := 30) rfl ?_); refine goesL_ (some 50) rfl rfl Tryd.func30 (by kernel_rfl) rfl #[.string a0, .int .i64 (wrap64 (a1 + 1))] rfl aO ?_; (first | (with_reducible refine (col_integer.calls kj17 a0 (wrap64 (a1 + 1)) t190 t191 t192 _ A32.out).mono ?_) | (with_reducible refine (col_integer.calls kj17 a0 (a1 + 1) t190 t191 t192 _ (by have e_ := A32.out; rwa [(by unfold wrap64; omega : wrap64 (a1 + 1) = (a1 + 1))] at e_)).mono ?_)); rintro e w' ⟨rfl, ⟨nd, rfl⟩⟩; refine ⟨_, rfl, ?_⟩; (try (rw [drewN_self wc]; generalize hq_ : World.drewN wc _ = wc; have n0_ : Aside0 (wc.heap[gb188]? = some (.cells #[.int .i64 0, .int .i64 0, .int .u64 0, .string (⟨#[]⟩ : ByteArray)] 24 (0, 0))) := ⟨by rw [← hq_]; exact (bk BK188)⟩; have n1_ : Aside0 (wc.heap[gb189]? = some (.cells #[.int .i64 (wrap64 ((wrap64 (Int.tdiv (wrap64 (bt a0 a1)) 16)) - 1)), .int .i64 0, .int .u64 0, .string (⟨#[]⟩ : ByteArray)] 24 (0, 0))) := ⟨by rw [← hq_]; exact (bk BK189)⟩; have n2_ : Aside0 (Below w.heap.size w wc) := ⟨by rw [← hq_]; exact bA⟩; clear BK188 BK189 HB hq_; have BK188 := n0_; have BK189 := n1_; have HB := n2_; clear n0_ n1_ n2_)); have hnb37 := NB189_188.out; have hnc37 := NB188_189.out; obtain ⟨hcz38_0, hcz38_1, hcz38_2, hcz38_3⟩ := zc4 BK189; obtain ⟨hfz38_0, hfz38_1, hfz38_2, hfz38_3⟩ := zf4 BK189; obtain ⟨hcz39_0, hcz39_1, hcz39_2, hcz39_3⟩ := zc4 BK188; obtain ⟨hfz39_0, hfz39_1, hfz39_2, hfz39_3⟩ := zf4 BK188))
       refine bodyPost_ret (results_ctt rfl _ _ gb188 24 #[.int .i64 0, .int .i64 0, .int .u64 0, .string (⟨#[]⟩ : ByteArray)] (0, 0) _ rfl (by refine bx ?_; refine blk_put (cs := #[.int .i64 0, .int .i64 0, .int .u64 0, .string (⟨#[]⟩ : ByteArray)]) ?_ 3 _ rfl; refine bx ?_; refine blk_put (cs := #[.int .i64 0, .int .i64 0, .int .u64 0, .string (⟨#[]⟩ : ByteArray)]) ?_ 2 _ rfl; refine bx ?_; refine blk_put (cs := #[.int .i64 0, .int .i64 0, .int .u64 0, .string (⟨#[]⟩ : ByteArray)]) ?_ 1 _ rfl; refine bx ?_; refine blk_put (cs := #[.int .i64 0, .int .i64 0, .int .u64 0, .string (⟨#[]⟩ : ByteArray)]) ?_ 0 _ rfl; refine bx ?_; refine blk_far ?_ NB188_189.out _; refine bx ?_; exact BK188.out) Tryd.underlying24 rfl (by kernel_rfl)) rfl ?_
       exact ⟨eW, by repeat (first | (with_reducible first | exact HB.out | apply below_alloc | apply pw_below_drewN | apply below_drew1 | refine below_set ?_ GE188.out | refine below_set ?_ GE189.out) | exact HB.out)⟩
      rw [if_pos c33] at H
      have c33b0 : (t192 == 0) = true := beq_iff_eq.mpr c33
      have c33b1 : (t192 != 0) = false := bne_eq_false_iff_eq.mpr c33
      clear c33
      simp only [Option.some.injEq, Prod.mk.injEq] at H
      obtain ⟨rfl, rfl, rfl, rfl, rfl, rfl⟩ := H
      go_wp2_with (first | ((with_reducible refine gate_callee (f := 30) rfl ?_); refine goesL_ (some 50) rfl rfl Tryd.func30 (by kernel_rfl) rfl #[.string a0, .int .i64 (wrap64 (a1 + 1))] rfl aO ?_; (first | (with_reducible refine (col_integer.calls kj17 a0 (wrap64 (a1 + 1)) t190 t191 t192 _ A32.out).mono ?_) | (with_reducible refine (col_integer.calls kj17 a0 (a1 + 1) t190 t191 t192 _ (by have e_ := A32.out; rwa [(by unfold wrap64; omega : wrap64 (a1 + 1) = (a1 + 1))] at e_)).mono ?_)); rintro e w' ⟨rfl, ⟨nd, rfl⟩⟩; refine ⟨_, rfl, ?_⟩; (try (rw [drewN_self wc]; generalize hq_ : World.drewN wc _ = wc; have n0_ : Aside0 (wc.heap[gb188]? = some (.cells #[.int .i64 0, .int .i64 0, .int .u64 0, .string (⟨#[]⟩ : ByteArray)] 24 (0, 0))) := ⟨by rw [← hq_]; exact (bk BK188)⟩; have n1_ : Aside0 (wc.heap[gb189]? = some (.cells #[.int .i64 (wrap64 ((wrap64 (Int.tdiv (wrap64 (bt a0 a1)) 16)) - 1)), .int .i64 0, .int .u64 0, .string (⟨#[]⟩ : ByteArray)] 24 (0, 0))) := ⟨by rw [← hq_]; exact (bk BK189)⟩; have n2_ : Aside0 (Below w.heap.size w wc) := ⟨by rw [← hq_]; exact bA⟩; clear BK188 BK189 HB hq_; have BK188 := n0_; have BK189 := n1_; have HB := n2_; clear n0_ n1_ n2_)); have hnb34 := NB189_188.out; have hnc34 := NB188_189.out; obtain ⟨hcz35_0, hcz35_1, hcz35_2, hcz35_3⟩ := zc4 BK189; obtain ⟨hfz35_0, hfz35_1, hfz35_2, hfz35_3⟩ := zf4 BK189; obtain ⟨hcz36_0, hcz36_1, hcz36_2, hcz36_3⟩ := zc4 BK188; obtain ⟨hfz36_0, hfz36_1, hfz36_2, hfz36_3⟩ := zf4 BK188))
      refine bodyPost_ret (results_ctt rfl _ _ gb188 24 #[.int .i64 (wrap64 ((wrap64 (Int.tdiv (wrap64 (bt a0 a1)) 16)) - 1)), .int .i64 t190, .int .u64 0, .string (⟨#[]⟩ : ByteArray)] (0, 0) _ rfl (by refine bx ?_; refine blk_put (cs := #[.int .i64 (wrap64 ((wrap64 (Int.tdiv (wrap64 (bt a0 a1)) 16)) - 1)), .int .i64 t190, .int .u64 0, .string (⟨#[]⟩ : ByteArray)]) ?_ 3 _ rfl; refine bx ?_; refine blk_put (cs := #[.int .i64 (wrap64 ((wrap64 (Int.tdiv (wrap64 (bt a0 a1)) 16)) - 1)), .int .i64 t190, .int .u64 0, .string (⟨#[]⟩ : ByteArray)]) ?_ 2 _ rfl; refine bx ?_; refine blk_put (cs := #[.int .i64 (wrap64 ((wrap64 (Int.tdiv (wrap64 (bt a0 a1)) 16)) - 1)), .int .i64 0, .int .u64 0, .string (⟨#[]⟩ : ByteArray)]) ?_ 1 _ rfl; refine bx ?_; refine blk_put (cs := #[.int .i64 0, .int .i64 0, .int .u64 0, .string (⟨#[]⟩ : ByteArray)]) ?_ 0 _ rfl; refine bx ?_; refine blk_far ?_ NB188_189.out _; refine bx ?_; exact BK188.out) Tryd.underlying24 rfl (by kernel_rfl)) rfl ?_
      exact ⟨eW, by repeat (first | (with_reducible first | exact HB.out | apply below_alloc | apply pw_below_drewN | apply below_drew1 | refine below_set ?_ GE188.out | refine below_set ?_ GE189.out) | exact HB.out)⟩
     rw [if_neg c31] at H
     have c31b0 : ((wrap64 (bt a0 a1)) == 48) = false := beq_eq_false_iff_ne.mpr c31
     have c31b1 : ((wrap64 (bt a0 a1)) != 48) = true := bne_iff_ne.mpr c31
     by_cases c40 : (wrap64 (bt a0 a1)) = 64
     ·rw [if_pos c40] at H
      have c40b0 : ((wrap64 (bt a0 a1)) == 64) = true := beq_iff_eq.mpr c40
      have c40b1 : ((wrap64 (bt a0 a1)) != 64) = false := bne_eq_false_iff_eq.mpr c40
      clear c40
      replace H := bM H
      obtain ⟨⟨t193, t194, t195⟩, A410, H⟩ := H
      replace H : (if t195 = 0 then (some ((wrap64 ((wrap64 (Int.tdiv (wrap64 (bt a0 a1)) 16)) - 1)), 0, t193, (⟨#[]⟩ : ByteArray), t194, 0)) else (some (0, 0, 0, (⟨#[]⟩ : ByteArray), 0, t195))) = some (r1, r2, r3, r4, r5, r6) := H
      have A41 := Aside0.mk A410
      clear A410
      by_cases c42 : t195 = 0
      rotate_left
      ·rw [if_neg c42] at H
       have c42b0 : (t195 == 0) = false := beq_eq_false_iff_ne.mpr c42
       have c42b1 : (t195 != 0) = true := bne_iff_ne.mpr c42
       simp only [Option.some.injEq, Prod.mk.injEq] at H
       obtain ⟨rfl, rfl, rfl, rfl, rfl, rfl⟩ := H
       go_wp2_with (first | ((with_reducible refine gate_callee (f := 31) rfl ?_); refine goesL_ (some 60) rfl rfl Tryd.func31 (by kernel_rfl) rfl #[.string a0, .int .i64 (wrap64 (a1 + 1))] rfl aO ?_; (first | (with_reducible refine (word_Get.calls kj17 a0 (wrap64 (a1 + 1)) t193 t194 t195 _ A41.out).mono ?_) | (with_reducible refine (word_Get.calls kj17 a0 (a1 + 1) t193 t194 t195 _ (by have e_ := A41.out; rwa [(by unfold wrap64; omega : wrap64 (a1 + 1) = (a1 + 1))] at e_)).mono ?_)); rintro e w47 ⟨rfl, hb⟩; refine ⟨_, rfl, ?_⟩; replace BK188 := as_ (blk_below (g := gb188) (o := .cells #[.int .i64 0, .int .i64 0, .int .u64 0, .string (⟨#[]⟩ : ByteArray)] 24 (0, 0)) (bk BK188) hb); replace BK189 := as_ (blk_below (g := gb189) (o := .cells #[.int .i64 (wrap64 ((wrap64 (Int.tdiv (wrap64 (bt a0 a1)) 16)) - 1)), .int .i64 0, .int .u64 0, .string (⟨#[]⟩ : ByteArray)] 24 (0, 0)) (bk BK189) hb); replace HB := as_ (below_step bA hb); (try clear hb); (try clear hb2); (try clear hk); (try clear hi); have hnb48 := NB189_188.out; have hnc48 := NB188_189.out; obtain ⟨hcz49_0, hcz49_1, hcz49_2, hcz49_3⟩ := zc4 BK189; obtain ⟨hfz49_0, hfz49_1, hfz49_2, hfz49_3⟩ := zf4 BK189; obtain ⟨hcz50_0, hcz50_1, hcz50_2, hcz50_3⟩ := zc4 BK188; obtain ⟨hfz50_0, hfz50_1, hfz50_2, hfz50_3⟩ := zf4 BK188))
       refine bodyPost_ret (results_ctt rfl _ _ gb188 24 #[.int .i64 0, .int .i64 0, .int .u64 0, .string (⟨#[]⟩ : ByteArray)] (0, 0) _ rfl (by refine bx ?_; refine blk_put (cs := #[.int .i64 0, .int .i64 0, .int .u64 0, .string (⟨#[]⟩ : ByteArray)]) ?_ 3 _ rfl; refine bx ?_; refine blk_put (cs := #[.int .i64 0, .int .i64 0, .int .u64 0, .string (⟨#[]⟩ : ByteArray)]) ?_ 2 _ rfl; refine bx ?_; refine blk_put (cs := #[.int .i64 0, .int .i64 0, .int .u64 0, .string (⟨#[]⟩ : ByteArray)]) ?_ 1 _ rfl; refine bx ?_; refine blk_put (cs := #[.int .i64 0, .int .i64 0, .int .u64 0, .string (⟨#[]⟩ : ByteArray)]) ?_ 0 _ rfl; refine bx ?_; refine blk_far ?_ NB188_189.out _; refine bx ?_; exact BK188.out) Tryd.underlying24 rfl (by kernel_rfl)) rfl ?_
       exact ⟨eW, by repeat (first | (with_reducible first | exact HB.out | apply below_alloc | apply pw_below_drewN | apply below_drew1 | refine below_set ?_ GE188.out | refine below_set ?_ GE189.out) | exact HB.out)⟩
      rw [if_pos c42] at H
      have c42b0 : (t195 == 0) = true := beq_iff_eq.mpr c42
      have c42b1 : (t195 != 0) = false := bne_eq_false_iff_eq.mpr c42
      clear c42
      simp only [Option.some.injEq, Prod.mk.injEq] at H
      obtain ⟨rfl, rfl, rfl, rfl, rfl, rfl⟩ := H
      go_wp2_with (first | ((with_reducible refine gate_callee (f := 31) rfl ?_); refine goesL_ (some 60) rfl rfl Tryd.func31 (by kernel_rfl) rfl #[.string a0, .int .i64 (wrap64 (a1 + 1))] rfl aO ?_; (first | (with_reducible refine (word_Get.calls kj17 a0 (wrap64 (a1 + 1)) t193 t194 t195 _ A41.out).mono ?_) | (with_reducible refine (word_Get.calls kj17 a0 (a1 + 1) t193 t194 t195 _ (by have e_ := A41.out; rwa [(by unfold wrap64; omega : wrap64 (a1 + 1) = (a1 + 1))] at e_)).mono ?_)); rintro e w43 ⟨rfl, hb⟩; refine ⟨_, rfl, ?_⟩; replace BK188 := as_ (blk_below (g := gb188) (o := .cells #[.int .i64 0, .int .i64 0, .int .u64 0, .string (⟨#[]⟩ : ByteArray)] 24 (0, 0)) (bk BK188) hb); replace BK189 := as_ (blk_below (g := gb189) (o := .cells #[.int .i64 (wrap64 ((wrap64 (Int.tdiv (wrap64 (bt a0 a1)) 16)) - 1)), .int .i64 0, .int .u64 0, .string (⟨#[]⟩ : ByteArray)] 24 (0, 0)) (bk BK189) hb); replace HB := as_ (below_step bA hb); (try clear hb); (try clear hb2); (try clear hk); (try clear hi); have hnb44 := NB189_188.out; have hnc44 := NB188_189.out; obtain ⟨hcz45_0, hcz45_1, hcz45_2, hcz45_3⟩ := zc4 BK189; obtain ⟨hfz45_0, hfz45_1, hfz45_2, hfz45_3⟩ := zf4 BK189; obtain ⟨hcz46_0, hcz46_1, hcz46_2, hcz46_3⟩ := zc4 BK188; obtain ⟨hfz46_0, hfz46_1, hfz46_2, hfz46_3⟩ := zf4 BK188))
      refine bodyPost_ret (results_ctt rfl _ _ gb188 24 #[.int .i64 (wrap64 ((wrap64 (Int.tdiv (wrap64 (bt a0 a1)) 16)) - 1)), .int .i64 0, .int .u64 t193, .string (⟨#[]⟩ : ByteArray)] (0, 0) _ rfl (by refine bx ?_; refine blk_put (cs := #[.int .i64 (wrap64 ((wrap64 (Int.tdiv (wrap64 (bt a0 a1)) 16)) - 1)), .int .i64 0, .int .u64 t193, .string (⟨#[]⟩ : ByteArray)]) ?_ 3 _ rfl; refine bx ?_; refine blk_put (cs := #[.int .i64 (wrap64 ((wrap64 (Int.tdiv (wrap64 (bt a0 a1)) 16)) - 1)), .int .i64 0, .int .u64 0, .string (⟨#[]⟩ : ByteArray)]) ?_ 2 _ rfl; refine bx ?_; refine blk_put (cs := #[.int .i64 (wrap64 ((wrap64 (Int.tdiv (wrap64 (bt a0 a1)) 16)) - 1)), .int .i64 0, .int .u64 0, .string (⟨#[]⟩ : ByteArray)]) ?_ 1 _ rfl; refine bx ?_; refine blk_put (cs := #[.int .i64 0, .int .i64 0, .int .u64 0, .string (⟨#[]⟩ : ByteArray)]) ?_ 0 _ rfl; refine bx ?_; refine blk_far ?_ NB188_189.out _; refine bx ?_; exact BK188.out) Tryd.underlying24 rfl (by kernel_rfl)) rfl ?_
      exact ⟨eW, by repeat (first | (with_reducible first | exact HB.out | apply below_alloc | apply pw_below_drewN | apply below_drew1 | refine below_set ?_ GE188.out | refine below_set ?_ GE189.out) | exact HB.out)⟩
     rw [if_neg c40] at H
     have c40b0 : ((wrap64 (bt a0 a1)) == 64) = false := beq_eq_false_iff_ne.mpr c40
     have c40b1 : ((wrap64 (bt a0 a1)) != 64) = true := bne_iff_ne.mpr c40
     by_cases c51 : (wrap64 (bt a0 a1)) = 80
     rotate_left
     ·rw [if_neg c51] at H
      have c51b0 : ((wrap64 (bt a0 a1)) == 80) = false := beq_eq_false_iff_ne.mpr c51
      have c51b1 : ((wrap64 (bt a0 a1)) != 80) = true := bne_iff_ne.mpr c51
      simp only [Option.some.injEq, Prod.mk.injEq] at H
      obtain ⟨rfl, rfl, rfl, rfl, rfl, rfl⟩ := H
      have hnb62 := NB188_189.out
      have hnc62 := NB189_188.out
      obtain ⟨hcz63_0, hcz63_1, hcz63_2, hcz63_3⟩ := zc4 BK188
      obtain ⟨hfz63_0, hfz63_1, hfz63_2, hfz63_3⟩ := zf4 BK188
      go_wp2
      refine bodyPost_ret (results_ctt rfl _ _ gb188 24 #[.int .i64 0, .int .i64 0, .int .u64 0, .string (⟨#[]⟩ : ByteArray)] (0, 0) _ rfl (by refine bx ?_; refine blk_put (cs := #[.int .i64 0, .int .i64 0, .int .u64 0, .string (⟨#[]⟩ : ByteArray)]) ?_ 3 _ rfl; refine bx ?_; refine blk_put (cs := #[.int .i64 0, .int .i64 0, .int .u64 0, .string (⟨#[]⟩ : ByteArray)]) ?_ 2 _ rfl; refine bx ?_; refine blk_put (cs := #[.int .i64 0, .int .i64 0, .int .u64 0, .string (⟨#[]⟩ : ByteArray)]) ?_ 1 _ rfl; refine bx ?_; refine blk_put (cs := #[.int .i64 0, .int .i64 0, .int .u64 0, .string (⟨#[]⟩ : ByteArray)]) ?_ 0 _ rfl; refine bx ?_; exact BK188.out) Tryd.underlying24 rfl (by kernel_rfl)) rfl ?_
      exact ⟨eW, by repeat (first | (with_reducible first | exact HB.out | apply below_alloc | apply pw_below_drewN | apply below_drew1 | refine below_set ?_ GE188.out | refine below_set ?_ GE189.out) | exact HB.out)⟩
     rw [if_pos c51] at H
     have c51b0 : ((wrap64 (bt a0 a1)) == 80) = true := beq_iff_eq.mpr c51
     have c51b1 : ((wrap64 (bt a0 a1)) != 80) = false := bne_eq_false_iff_eq.mpr c51
     clear c51
     replace H := bM H
     obtain ⟨⟨t196, t197, t198⟩, A520, H⟩ := H
     replace H : (if t198 = 0 then (some ((wrap64 ((wrap64 (Int.tdiv (wrap64 (bt a0 a1)) 16)) - 1)), 0, 0, t196, t197, 0)) else (some (0, 0, 0, (⟨#[]⟩ : ByteArray), 0, t198))) = some (r1, r2, r3, r4, r5, r6) := H
     have A52 := Aside0.mk A520
     clear A520
     by_cases c53 : t198 = 0
     rotate_left
     ·rw [if_neg c53] at H
      have c53b0 : (t198 == 0) = false := beq_eq_false_iff_ne.mpr c53
      have c53b1 : (t198 != 0) = true := bne_iff_ne.mpr c53
      simp only [Option.some.injEq, Prod.mk.injEq] at H
      obtain ⟨rfl, rfl, rfl, rfl, rfl, rfl⟩ := H
      go_wp2_with (first | ((with_reducible refine gate_callee (f := 32) rfl ?_); refine goesL_ (some 70) rfl rfl Tryd.func32 (by kernel_rfl) rfl #[.string a0, .int .i64 (wrap64 (a1 + 1))] rfl aO ?_; (first | (with_reducible refine (col_text.calls kj17 a0 (wrap64 (a1 + 1)) t196 t197 t198 _ A52.out).mono ?_) | (with_reducible refine (col_text.calls kj17 a0 (a1 + 1) t196 t197 t198 _ (by have e_ := A52.out; rwa [(by unfold wrap64; omega : wrap64 (a1 + 1) = (a1 + 1))] at e_)).mono ?_)); rintro e w58 ⟨rfl, hb⟩; refine ⟨_, rfl, ?_⟩; replace BK188 := as_ (blk_below (g := gb188) (o := .cells #[.int .i64 0, .int .i64 0, .int .u64 0, .string (⟨#[]⟩ : ByteArray)] 24 (0, 0)) (bk BK188) hb); replace BK189 := as_ (blk_below (g := gb189) (o := .cells #[.int .i64 (wrap64 ((wrap64 (Int.tdiv (wrap64 (bt a0 a1)) 16)) - 1)), .int .i64 0, .int .u64 0, .string (⟨#[]⟩ : ByteArray)] 24 (0, 0)) (bk BK189) hb); replace HB := as_ (below_step bA hb); (try clear hb); (try clear hb2); (try clear hk); (try clear hi); have hnb59 := NB189_188.out; have hnc59 := NB188_189.out; obtain ⟨hcz60_0, hcz60_1, hcz60_2, hcz60_3⟩ := zc4 BK189; obtain ⟨hfz60_0, hfz60_1, hfz60_2, hfz60_3⟩ := zf4 BK189; obtain ⟨hcz61_0, hcz61_1, hcz61_2, hcz61_3⟩ := zc4 BK188; obtain ⟨hfz61_0, hfz61_1, hfz61_2, hfz61_3⟩ := zf4 BK188))
      refine bodyPost_ret (results_ctt rfl _ _ gb188 24 #[.int .i64 0, .int .i64 0, .int .u64 0, .string (⟨#[]⟩ : ByteArray)] (0, 0) _ rfl (by refine bx ?_; refine blk_put (cs := #[.int .i64 0, .int .i64 0, .int .u64 0, .string (⟨#[]⟩ : ByteArray)]) ?_ 3 _ rfl; refine bx ?_; refine blk_put (cs := #[.int .i64 0, .int .i64 0, .int .u64 0, .string (⟨#[]⟩ : ByteArray)]) ?_ 2 _ rfl; refine bx ?_; refine blk_put (cs := #[.int .i64 0, .int .i64 0, .int .u64 0, .string (⟨#[]⟩ : ByteArray)]) ?_ 1 _ rfl; refine bx ?_; refine blk_put (cs := #[.int .i64 0, .int .i64 0, .int .u64 0, .string (⟨#[]⟩ : ByteArray)]) ?_ 0 _ rfl; refine bx ?_; refine blk_far ?_ NB188_189.out _; refine bx ?_; exact BK188.out) Tryd.underlying24 rfl (by kernel_rfl)) rfl ?_
      exact ⟨eW, by repeat (first | (with_reducible first | exact HB.out | apply below_alloc | apply pw_below_drewN | apply below_drew1 | refine below_set ?_ GE188.out | refine below_set ?_ GE189.out) | exact HB.out)⟩
     rw [if_pos c53] at H
     have c53b0 : (t198 == 0) = true := beq_iff_eq.mpr c53
     have c53b1 : (t198 != 0) = false := bne_eq_false_iff_eq.mpr c53
     clear c53
     simp only [Option.some.injEq, Prod.mk.injEq] at H
     obtain ⟨rfl, rfl, rfl, rfl, rfl, rfl⟩ := H
     go_wp2_with (first | ((with_reducible refine gate_callee (f := 32) rfl ?_); refine goesL_ (some 70) rfl rfl Tryd.func32 (by kernel_rfl) rfl #[.string a0, .int .i64 (wrap64 (a1 + 1))] rfl aO ?_; (first | (with_reducible refine (col_text.calls kj17 a0 (wrap64 (a1 + 1)) t196 t197 t198 _ A52.out).mono ?_) | (with_reducible refine (col_text.calls kj17 a0 (a1 + 1) t196 t197 t198 _ (by have e_ := A52.out; rwa [(by unfold wrap64; omega : wrap64 (a1 + 1) = (a1 + 1))] at e_)).mono ?_)); rintro e w54 ⟨rfl, hb⟩; refine ⟨_, rfl, ?_⟩; replace BK188 := as_ (blk_below (g := gb188) (o := .cells #[.int .i64 0, .int .i64 0, .int .u64 0, .string (⟨#[]⟩ : ByteArray)] 24 (0, 0)) (bk BK188) hb); replace BK189 := as_ (blk_below (g := gb189) (o := .cells #[.int .i64 (wrap64 ((wrap64 (Int.tdiv (wrap64 (bt a0 a1)) 16)) - 1)), .int .i64 0, .int .u64 0, .string (⟨#[]⟩ : ByteArray)] 24 (0, 0)) (bk BK189) hb); replace HB := as_ (below_step bA hb); (try clear hb); (try clear hb2); (try clear hk); (try clear hi); have hnb55 := NB189_188.out; have hnc55 := NB188_189.out; obtain ⟨hcz56_0, hcz56_1, hcz56_2, hcz56_3⟩ := zc4 BK189; obtain ⟨hfz56_0, hfz56_1, hfz56_2, hfz56_3⟩ := zf4 BK189; obtain ⟨hcz57_0, hcz57_1, hcz57_2, hcz57_3⟩ := zc4 BK188; obtain ⟨hfz57_0, hfz57_1, hfz57_2, hfz57_3⟩ := zf4 BK188))
     refine bodyPost_ret (results_ctt rfl _ _ gb188 24 #[.int .i64 (wrap64 ((wrap64 (Int.tdiv (wrap64 (bt a0 a1)) 16)) - 1)), .int .i64 0, .int .u64 0, .string t196] (0, 0) _ rfl (by refine bx ?_; refine blk_put (cs := #[.int .i64 (wrap64 ((wrap64 (Int.tdiv (wrap64 (bt a0 a1)) 16)) - 1)), .int .i64 0, .int .u64 0, .string (⟨#[]⟩ : ByteArray)]) ?_ 3 _ rfl; refine bx ?_; refine blk_put (cs := #[.int .i64 (wrap64 ((wrap64 (Int.tdiv (wrap64 (bt a0 a1)) 16)) - 1)), .int .i64 0, .int .u64 0, .string (⟨#[]⟩ : ByteArray)]) ?_ 2 _ rfl; refine bx ?_; refine blk_put (cs := #[.int .i64 (wrap64 ((wrap64 (Int.tdiv (wrap64 (bt a0 a1)) 16)) - 1)), .int .i64 0, .int .u64 0, .string (⟨#[]⟩ : ByteArray)]) ?_ 1 _ rfl; refine bx ?_; refine blk_put (cs := #[.int .i64 0, .int .i64 0, .int .u64 0, .string (⟨#[]⟩ : ByteArray)]) ?_ 0 _ rfl; refine bx ?_; refine blk_far ?_ NB188_189.out _; refine bx ?_; exact BK188.out) Tryd.underlying24 rfl (by kernel_rfl)) rfl ?_
     exact ⟨eW, by repeat (first | (with_reducible first | exact HB.out | apply below_alloc | apply pw_below_drewN | apply below_drew1 | refine below_set ?_ GE188.out | refine below_set ?_ GE189.out) | exact HB.out)⟩
/-! ### withyref01_follow: function 45 -/
def withyref01_follow.f (a0 : Int) : Option (Int) := if a0 ≤ 240 then (some 0) else (if a0 ≤ 248 then (some 1) else (if a0 = 249 then (some 2) else (some (wrap64 ((wrap64 (a0)) - 247)))))
set_option maxHeartbeats 8000000 in
set_option maxRecDepth 100000 in
theorem withyref01_follow.calls (a0 : Int) (r : Int) (w : World) (h : withyref01_follow.f a0 = some r) :
  Calls Tryd.prog 45 #[.int .u8 a0] w fun e w' => e = .returned (.int .i64 r) ∧ Drawn0 w w' := by
 have H : (if a0 ≤ 240 then (some 0) else (if a0 ≤ 248 then (some 1) else (if a0 = 249 then (some 2) else (some (wrap64 ((wrap64 (a0)) - 247)))))) = some r := h
 clear h
 by_cases c2 : a0 ≤ 240
 ·rw [if_pos c2] at H
  have c2b0 : decide (a0 ≤ 240) = true := decide_eq_true c2
  clear c2
  obtain rfl := Option.some.inj H
  go_enter Tryd.func45, Tryd.ntmps45
  go_wp2
  go_ret
  exact ⟨by first | rfl | (simp; done) | (simp [*]; done), by repeat (first | exact Drawn0.refl _ | apply Drawn0.step)⟩
 rw [if_neg c2] at H
 have c2b0 : decide (a0 ≤ 240) = false := decide_eq_false c2
 clear c2
 by_cases c3 : a0 ≤ 248
 ·rw [if_pos c3] at H
  have c3b0 : decide (a0 ≤ 248) = true := decide_eq_true c3
  clear c3
  obtain rfl := Option.some.inj H
  go_enter Tryd.func45, Tryd.ntmps45
  go_wp2
  go_ret
  exact ⟨by first | rfl | (simp; done) | (simp [*]; done), by repeat (first | exact Drawn0.refl _ | apply Drawn0.step)⟩
 rw [if_neg c3] at H
 have c3b0 : decide (a0 ≤ 248) = false := decide_eq_false c3
 clear c3
 by_cases c4 : a0 = 249
 rotate_left
 ·rw [if_neg c4] at H
  have c4b0 : (a0 == 249) = false := beq_eq_false_iff_ne.mpr c4
  have c4b1 : (a0 != 249) = true := bne_iff_ne.mpr c4
  obtain rfl := Option.some.inj H
  go_enter Tryd.func45, Tryd.ntmps45
  go_wp2
  go_ret
  exact ⟨by first | rfl | (simp; done) | (simp [*]; done), by repeat (first | exact Drawn0.refl _ | apply Drawn0.step)⟩
 
 rw [if_pos c4] at H
 have c4b0 : (a0 == 249) = true := beq_iff_eq.mpr c4
 have c4b1 : (a0 != 249) = false := bne_eq_false_iff_eq.mpr c4
 clear c4
 obtain rfl := Option.some.inj H
 go_enter Tryd.func45, Tryd.ntmps45
 go_wp2
 go_ret
 exact ⟨by first | rfl | (simp; done) | (simp [*]; done), by repeat (first | exact Drawn0.refl _ | apply Drawn0.step)⟩
/-! ### withyref01_Get: function 33 -/
mutual
def withyref01_Get.j0 : Nat → ByteArray → Int → Bool → Option (Int × Int × Int)
 | 0, _, _, _ => none
 | k + 1, x0, x1, x17 => if x17 = true then (some (0, 0, 4)) else (if x1 = (x0.size : Int) then (withyref01_Get.j1 k x0 x1 true) else (if 0 ≤ x1 then (if x1 < (x0.size : Int) then ((withyref01_follow.f (bt x0 x1)).bind fun t199 => (withyref01_Get.j1 k x0 x1 (decide ((wrap64 ((wrap64 (x1 + 1)) + t199)) > (x0.size : Int))))) else (none)) else (none)))
def withyref01_Get.j1 : Nat → ByteArray → Int → Bool → Option (Int × Int × Int)
 | 0, _, _, _ => none
 | k + 1, x0, x1, x33 => if x33 = true then (some (0, 0, 7)) else (if 0 ≤ x1 then (if x1 < (x0.size : Int) then ((withyref01_follow.f (bt x0 x1)).bind fun t200 => (withyref01_Get.l0 k x0 x1 (wrap64 ((wrap64 (x1 + 1)) + t200)) 0 (wrap64 (x1 + 1)))) else (none)) else (none))
def withyref01_Get.l0 : Nat → ByteArray → Int → Int → Int → Int → Option (Int × Int × Int)
 | 0, _, _, _, _, _ => none
 | k + 1, x0, x1, x7, x8, x9 => if x9 < x7 then (if 0 ≤ x9 then (if x9 < (x0.size : Int) then (withyref01_Get.l0 k x0 x1 x7 (IntKind.u64.wrap ((IntKind.u64.wrap (x8 * 256)) + (IntKind.u64.wrap (bt x0 x9)))) (wrap64 (x9 + 1))) else (none)) else (none)) else (if 0 ≤ x1 then (if x1 < (x0.size : Int) then (if (bt x0 x1) ≤ 240 then ((withyref01_Put.f k (IntKind.u64.wrap (bt x0 x1))).bind fun t201 => (if x1 ≤ x7 then (if x7 ≤ (x0.size : Int) then (if t201.toList = (x0.extract (x1 : Int).toNat (x7 : Int).toNat).toList then (some (IntKind.u64.wrap (bt x0 x1), x7, 0)) else (some (0, 0, 3))) else (none)) else (none))) else (if (bt x0 x1) ≤ 248 then ((withyref01_Put.f k (IntKind.u64.wrap ((IntKind.u64.wrap (240 + (IntKind.u64.wrap (256 * (IntKind.u64.wrap ((IntKind.u64.wrap (bt x0 x1)) - 241)))))) + x8))).bind fun t202 => (if x1 ≤ x7 then (if x7 ≤ (x0.size : Int) then (if t202.toList = (x0.extract (x1 : Int).toNat (x7 : Int).toNat).toList then (some (IntKind.u64.wrap ((IntKind.u64.wrap (240 + (IntKind.u64.wrap (256 * (IntKind.u64.wrap ((IntKind.u64.wrap (bt x0 x1)) - 241)))))) + x8), x7, 0)) else (some (0, 0, 3))) else (none)) else (none))) else (if (bt x0 x1) = 249 then ((withyref01_Put.f k (IntKind.u64.wrap (2288 + x8))).bind fun t203 => (if x1 ≤ x7 then (if x7 ≤ (x0.size : Int) then (if t203.toList = (x0.extract (x1 : Int).toNat (x7 : Int).toNat).toList then (some (IntKind.u64.wrap (2288 + x8), x7, 0)) else (some (0, 0, 3))) else (none)) else (none))) else ((withyref01_Put.f k x8).bind fun t204 => (if x1 ≤ x7 then (if x7 ≤ (x0.size : Int) then (if t204.toList = (x0.extract (x1 : Int).toNat (x7 : Int).toNat).toList then (some (x8, x7, 0)) else (some (0, 0, 3))) else (none)) else (none)))))) else (none)) else (none))
end
def withyref01_Get.f (k : Nat) (a0 : ByteArray) (a1 : Int) : Option (Int × Int × Int) := if a1 < 0 then (withyref01_Get.j0 k a0 a1 true) else (withyref01_Get.j0 k a0 a1 (decide (a1 > (a0.size : Int))))
theorem withyref01_Get.mono_l : ∀ k, (∀ y0 y1 y2, LeO (withyref01_Get.j0 k y0 y1 y2) (withyref01_Get.j0 (k + 1) y0 y1 y2)) ∧ (∀ y0 y1 y2, LeO (withyref01_Get.j1 k y0 y1 y2) (withyref01_Get.j1 (k + 1) y0 y1 y2)) ∧ (∀ y0 y1 y2 y3 y4, LeO (withyref01_Get.l0 k y0 y1 y2 y3 y4) (withyref01_Get.l0 (k + 1) y0 y1 y2 y3 y4))
 | 0 => ⟨fun _ _ _ r h => by simp [withyref01_Get.j0] at h, fun _ _ _ r h => by simp [withyref01_Get.j1] at h, fun _ _ _ _ _ r h => by simp [withyref01_Get.l0] at h⟩
 | k + 1 => by
  obtain ⟨ih0, ih1, ih2⟩ := withyref01_Get.mono_l k
  refine ⟨?_, ?_, ?_⟩
  ·intro y0 y1 y2
   unfold withyref01_Get.j0
   repeat' first
   | (with_reducible exact ih0 _ _ _)
   | (with_reducible exact ih1 _ _ _)
   | (with_reducible exact ih2 _ _ _ _ _)
   | (with_reducible exact withyref01_Put.mono _ _)
   | (with_reducible exact LeO.refl _)
   | (with_reducible exact LeO.none _)
   | (with_reducible refine LeO.ite ?_ ?_)
   | (with_reducible refine LeO.bind ?_ (fun _ => ?_))
   | exact ih0 _ _ _
   | exact ih1 _ _ _
   | exact ih2 _ _ _ _ _
   | exact withyref01_Put.mono _ _
   | exact LeO.none _
   | refine LeO.ite ?_ ?_
   | refine LeO.bind ?_ (fun _ => ?_)
  ·intro y0 y1 y2
   unfold withyref01_Get.j1
   repeat' first
   | (with_reducible exact ih0 _ _ _)
   | (with_reducible exact ih1 _ _ _)
   | (with_reducible exact ih2 _ _ _ _ _)
   | (with_reducible exact withyref01_Put.mono _ _)
   | (with_reducible exact LeO.refl _)
   | (with_reducible exact LeO.none _)
   | (with_reducible refine LeO.ite ?_ ?_)
   | (with_reducible refine LeO.bind ?_ (fun _ => ?_))
   | exact ih0 _ _ _
   | exact ih1 _ _ _
   | exact ih2 _ _ _ _ _
   | exact withyref01_Put.mono _ _
   | exact LeO.none _
   | refine LeO.ite ?_ ?_
   | refine LeO.bind ?_ (fun _ => ?_)
  ·intro y0 y1 y2 y3 y4
   unfold withyref01_Get.l0
   repeat' first
   | (with_reducible exact ih0 _ _ _)
   | (with_reducible exact ih1 _ _ _)
   | (with_reducible exact ih2 _ _ _ _ _)
   | (with_reducible exact withyref01_Put.mono _ _)
   | (with_reducible exact LeO.refl _)
   | (with_reducible exact LeO.none _)
   | (with_reducible refine LeO.ite ?_ ?_)
   | (with_reducible refine LeO.bind ?_ (fun _ => ?_))
   | exact ih0 _ _ _
   | exact ih1 _ _ _
   | exact ih2 _ _ _ _ _
   | exact withyref01_Put.mono _ _
   | exact LeO.none _
   | refine LeO.ite ?_ ?_
   | refine LeO.bind ?_ (fun _ => ?_)
theorem withyref01_Get.mono : ∀ a0 a1 k, LeO (withyref01_Get.f k a0 a1) (withyref01_Get.f (k + 1) a0 a1) := by
 intro a0 a1 k
 obtain ⟨ih0, ih1, ih2⟩ := withyref01_Get.mono_l k
 unfold withyref01_Get.f
 repeat' first
   | (with_reducible exact ih0 _ _ _)
   | (with_reducible exact ih1 _ _ _)
   | (with_reducible exact ih2 _ _ _ _ _)
   | (with_reducible exact withyref01_Put.mono _ _)
   | (with_reducible exact LeO.refl _)
   | (with_reducible exact LeO.none _)
   | (with_reducible refine LeO.ite ?_ ?_)
   | (with_reducible refine LeO.bind ?_ (fun _ => ?_))
   | exact ih0 _ _ _
   | exact ih1 _ _ _
   | exact ih2 _ _ _ _ _
   | exact withyref01_Put.mono _ _
   | exact LeO.none _
   | refine LeO.ite ?_ ?_
   | refine LeO.bind ?_ (fun _ => ?_)
set_option maxHeartbeats 8000000 in
set_option maxRecDepth 100000 in
theorem withyref01_Get.calls (k : Nat) (a0 : ByteArray) (a1 : Int) (r1 : Int) (r2 : Int) (r3 : Int) (w : World) (h : withyref01_Get.f k a0 a1 = some (r1, r2, r3)) :
  Calls Tryd.prog 33 #[.string a0, .int .i64 a1] w fun e w' => e = .returned (.tuple #[.int .u64 r1, .int .i64 r2, .int .i64 r3]) ∧ Below w.heap.size w w' := by
 have HB := as_ (Below.refl w.heap.size w)
 have H : (if a1 < 0 then (withyref01_Get.j0 k a0 a1 true) else (withyref01_Get.j0 k a0 a1 (decide (a1 > (a0.size : Int))))) = some (r1, r2, r3) := h
 clear h
 have HC3 := Aside0.mk H
 clear H
 go_enter Tryd.func33, Tryd.ntmps33
 go_upto_region 1 with (fail)
 go_cut [17] (fun v17 wc => ∃ (kq : Nat) (x17_2 : Bool), v17 = .bool x17_2 ∧ Aside0 (withyref01_Get.j0 kq a0 a1 x17_2 = some (r1, r2, r3)) ∧ Aside0 (kq ≤ k) ∧ Aside0 (Below w.heap.size w wc))
 case first =>
  have H := HC3.out
  clear HC3
  by_cases c4 : a1 < 0
  rotate_left
  ·rw [if_neg c4] at H
   have c4b0 : decide (a1 < 0) = false := decide_eq_false c4
   clear c4
   (first | rw [c4b0] | (simp only [i64_w, i32_w]; rw [c4b0]) | rw [c4b1] | skip)
   have H' := Aside0.mk H
   clear H
   go_wp2
   go_meet
   case rel => exact ⟨_, (decide (a1 > (a0.size : Int))), (by first | rfl | (simp; done) | (simp [*]; done)), H', ⟨by first | omega | exact Nat.le_refl _⟩, ⟨by repeat (first | (with_reducible first | exact HB.out | apply below_alloc | apply pw_below_drewN | apply below_drew1) | exact HB.out)⟩⟩
  rw [if_pos c4] at H
  have c4b0 : decide (a1 < 0) = true := decide_eq_true c4
  clear c4
  (first | rw [c4b0] | (simp only [i64_w, i32_w]; rw [c4b0]) | rw [c4b1] | skip)
  have H' := Aside0.mk H
  clear H
  go_wp2
  go_meet
  case rel => exact ⟨_, (true), (by first | rfl | (simp; done) | (simp [*]; done)), H', ⟨by first | omega | exact Nat.le_refl _⟩, ⟨by repeat (first | (with_reducible first | exact HB.out | apply below_alloc | apply pw_below_drewN | apply below_drew1) | exact HB.out)⟩⟩
 case rest =>
  clear HC3
  try clear p2
  try clear c3
  try clear c4
  try clear c4b0
  try clear c4b1
  obtain ⟨kq, x17_2, rfl, HA, HJ2, HB⟩ := hcut
  cases kq with
  | zero => exact absurd HA.out (by simp [withyref01_Get.j0])
  | succ kj2 =>
   have H := HA.out
   clear HA
   simp only [withyref01_Get.j0] at H
   by_cases c5 : x17_2 = true
   ·subst c5
    have H1 : (some (0, 0, 4)) = some (r1, r2, r3) := by rw [if_pos rfl] at H; exact H
    clear H
    have H := H1
    clear H1
    simp only [Option.some.injEq, Prod.mk.injEq] at H
    obtain ⟨rfl, rfl, rfl⟩ := H
    go_wp2
    go_ret3
    exact ⟨eW, by repeat (first | (with_reducible first | exact HB.out | apply below_alloc | apply pw_below_drewN | apply below_drew1) | exact HB.out)⟩
   replace c5 := Bool.eq_false_iff.mpr c5
   subst c5
   have H1 : (if a1 = (a0.size : Int) then (withyref01_Get.j1 kj2 a0 a1 true) else (if 0 ≤ a1 then (if a1 < (a0.size : Int) then ((withyref01_follow.f (bt a0 a1)).bind fun t199 => (withyref01_Get.j1 kj2 a0 a1 (decide ((wrap64 ((wrap64 (a1 + 1)) + t199)) > (a0.size : Int))))) else (none)) else (none))) = some (r1, r2, r3) := by rw [if_neg (show ¬ (false = true) by decide)] at H; exact H
   clear H
   have H := H1
   clear H1
   have HC6 := Aside0.mk H
   clear H
   go_upto_region 3 with (fail)
   go_cut [33] (fun v33 wc => ∃ (kq : Nat) (x33_5 : Bool), v33 = .bool x33_5 ∧ Aside0 (withyref01_Get.j1 kq a0 a1 x33_5 = some (r1, r2, r3)) ∧ Aside0 (kq ≤ kj2) ∧ Aside0 (Below w.heap.size w wc))
   case first =>
    have H := HC6.out
    clear HC6
    by_cases c7 : a1 = (a0.size : Int)
    ·rw [if_pos c7] at H
     have c7b0 : (a1 == (a0.size : Int)) = true := beq_iff_eq.mpr c7
     have c7b1 : (a1 != (a0.size : Int)) = false := bne_eq_false_iff_eq.mpr c7
     clear c7
     (first | rw [c7b0] | (simp only [i64_w, i32_w]; rw [c7b0]) | rw [c7b1] | skip)
     have H' := Aside0.mk H
     clear H
     go_wp2
     go_meet
     case rel => exact ⟨_, (true), (by first | rfl | (simp; done) | (simp [*]; done)), H', ⟨by have := HJ2.out; first | omega | exact Nat.le_refl _⟩, ⟨by repeat (first | (with_reducible first | exact HB.out | apply below_alloc | apply pw_below_drewN | apply below_drew1) | exact HB.out)⟩⟩
    rw [if_neg c7] at H
    have c7b0 : (a1 == (a0.size : Int)) = false := beq_eq_false_iff_ne.mpr c7
    have c7b1 : (a1 != (a0.size : Int)) = true := bne_iff_ne.mpr c7
    (first | rw [c7b0] | (simp only [i64_w, i32_w]; rw [c7b0]) | rw [c7b1] | skip)
    by_cases c8 : 0 ≤ a1
    rotate_left
    ·rw [if_neg c8] at H
     exact absurd H (by simp)
    rw [if_pos c8] at H
    have c8b0 : decide (0 ≤ a1) = true := decide_eq_true c8
    clear c8
    by_cases c9 : a1 < (a0.size : Int)
    rotate_left
    ·rw [if_neg c9] at H
     exact absurd H (by simp)
    rw [if_pos c9] at H
    have c9b0 : decide (a1 < (a0.size : Int)) = true := decide_eq_true c9
    clear c9
    replace H := bM H
    obtain ⟨t199, A110, H⟩ := H
    replace H : (withyref01_Get.j1 kj2 a0 a1 (decide ((wrap64 ((wrap64 (a1 + 1)) + t199)) > (a0.size : Int)))) = some (r1, r2, r3) := H
    have A11 := Aside0.mk A110
    clear A110
    have H' := Aside0.mk H
    clear H
    have p10 : 0 ≤ (a1 : Int) := of_decide_eq_true aM
    have q10 : a1 < (a0.size : Int) := of_decide_eq_true aM
    have hx10 := bt_at a0 a1
    replace p10 := eq_true p10
    replace q10 := eq_true q10
    go_wp2_with (first | (go_at_call 45; (with_reducible refine (withyref01_follow.calls (bt a0 a1) t199 _ A11.out).mono ?_); rintro e w' ⟨rfl, ⟨nd, rfl⟩⟩))
    go_meet
    case rel => exact ⟨_, (decide ((wrap64 ((wrap64 (a1 + 1)) + t199)) > (a0.size : Int))), (by first | rfl | (simp; done) | (simp [*]; done)), H', ⟨by have := HJ2.out; first | omega | exact Nat.le_refl _⟩, ⟨by repeat (first | (with_reducible first | exact HB.out | apply below_alloc | apply pw_below_drewN | apply below_drew1) | exact HB.out)⟩⟩
   case rest =>
    clear HC6
    try clear p1
    try clear q1
    try clear hx1
    try clear p2
    try clear c3
    try clear c4
    try clear c4b0
    try clear c4b1
    try clear c5
    try clear p6
    try clear c7
    try clear c7b0
    try clear c7b1
    try clear c8
    try clear c8b0
    try clear c9
    try clear c9b0
    try clear p10
    try clear q10
    try clear hx10
    try clear p10
    try clear p2
    try clear q10
    obtain ⟨kq, x33_5, rfl, HA, HJ5, HB⟩ := hcut
    cases kq with
    | zero => exact absurd HA.out (by simp [withyref01_Get.j1])
    | succ kj5 =>
     have H := HA.out
     clear HA
     simp only [withyref01_Get.j1] at H
     by_cases c12 : x33_5 = true
     ·subst c12
      have H1 : (some (0, 0, 7)) = some (r1, r2, r3) := by rw [if_pos rfl] at H; exact H
      clear H
      have H := H1
      clear H1
      simp only [Option.some.injEq, Prod.mk.injEq] at H
      obtain ⟨rfl, rfl, rfl⟩ := H
      go_wp2
      go_ret3
      exact ⟨eW, by repeat (first | (with_reducible first | exact HB.out | apply below_alloc | apply pw_below_drewN | apply below_drew1) | exact HB.out)⟩
     replace c12 := Bool.eq_false_iff.mpr c12
     subst c12
     have H1 : (if 0 ≤ a1 then (if a1 < (a0.size : Int) then ((withyref01_follow.f (bt a0 a1)).bind fun t200 => (withyref01_Get.l0 kj5 a0 a1 (wrap64 ((wrap64 (a1 + 1)) + t200)) 0 (wrap64 (a1 + 1)))) else (none)) else (none)) = some (r1, r2, r3) := by rw [if_neg (show ¬ (false = true) by decide)] at H; exact H
     clear H
     have H := H1
     clear H1
     by_cases c13 : 0 ≤ a1
     rotate_left
     ·rw [if_neg c13] at H
      exact absurd H (by simp)
 
     rw [if_pos c13] at H
     have c13b0 : decide (0 ≤ a1) = true := decide_eq_true c13
     clear c13
     by_cases c14 : a1 < (a0.size : Int)
     rotate_left
     ·rw [if_neg c14] at H
      exact absurd H (by simp)
     rw [if_pos c14] at H
     have c14b0 : decide (a1 < (a0.size : Int)) = true := decide_eq_true c14
     clear c14
     replace H := bM H
     obtain ⟨t200, A160, H⟩ := H
     replace H : (withyref01_Get.l0 kj5 a0 a1 (wrap64 ((wrap64 (a1 + 1)) + t200)) 0 (wrap64 (a1 + 1))) = some (r1, r2, r3) := H
     have A16 := Aside0.mk A160
     clear A160
     have H' := Aside0.mk H
     clear H
     have p15 : 0 ≤ (a1 : Int) := of_decide_eq_true aM
     have q15 : a1 < (a0.size : Int) := of_decide_eq_true aM
     have hx15 := bt_at a0 a1
     replace p15 := eq_true p15
     replace q15 := eq_true q15
     go_wp2_with (first | ((with_reducible refine gate_callee (f := 45) rfl ?_); refine goesL_ (some 39) rfl rfl Tryd.func45 (by kernel_rfl) rfl #[.int .u8 (bt a0 a1)] rfl aO ?_; (with_reducible refine (withyref01_follow.calls (bt a0 a1) t200 _ A16.out).mono ?_); rintro e w' ⟨rfl, ⟨nd, rfl⟩⟩; refine ⟨_, rfl, ?_⟩))
     go_loopg [8, 9] kj5 (fun kq v8 v9 w' => ∃ (x8_3 : Int) (x9_3 : Int), v8 = .int .u64 x8_3 ∧ v9 = .int .i64 x9_3 ∧ Aside0 (withyref01_Get.l0 kq a0 a1 (wrap64 ((wrap64 (a1 + 1)) + t200)) x8_3 x9_3 = some (r1, r2, r3)) ∧ Aside0 (kq ≤ kj5) ∧ Aside0 (Below w.heap.size w w'))
     case atStart => exact ⟨(0), (wrap64 (a1 + 1)), (by first | rfl | (simp; done) | (simp [*]; done)), (by first | rfl | (simp; done) | (simp [*]; done)), H', ⟨Nat.le_refl _⟩, ⟨by repeat (first | (with_reducible first | exact HB.out | apply below_alloc | apply pw_below_drewN | apply below_drew1) | exact HB.out)⟩⟩
     case round =>
      clear H'
      try clear c1
      try clear p1
      try clear q1
      try clear hx1
      try clear p2
      try clear c3
      try clear c4
      try clear c4b0
      try clear c4b1
      try clear c5
      try clear p6
      try clear c7
      try clear c7b0
      try clear c7b1
      try clear c8
      try clear c8b0
      try clear c9
      try clear c9b0
      try clear p10
      try clear q10
      try clear hx10
      try clear c12
      try clear c13
      try clear c13b0
      try clear c14
      try clear c14b0
      try clear p15
      try clear q15
      try clear hx15
      try clear p1
      try clear p10
      try clear p15
      try clear p2
      try clear p6
      try clear q1
      try clear q10
      try clear q15
      obtain ⟨x8_3, x9_3, rfl, rfl, HA, HK3, HB⟩ := hrel
      cases gk with
      | zero => exact absurd HA.out (by simp [withyref01_Get.l0])
      | succ k3 =>
       have H := HA.out
       clear HA
       simp only [withyref01_Get.l0] at H
       by_cases c17 : x9_3 < (wrap64 ((wrap64 (a1 + 1)) + t200))
       ·rw [if_pos c17] at H
        have c17b0 : decide (x9_3 < (wrap64 ((wrap64 (a1 + 1)) + t200))) = true := decide_eq_true c17
        clear c17
        by_cases c18 : 0 ≤ x9_3
        rotate_left
        ·rw [if_neg c18] at H
         exact absurd H (by simp)
        rw [if_pos c18] at H
        have c18b0 : decide (0 ≤ x9_3) = true := decide_eq_true c18
        clear c18
        by_cases c19 : x9_3 < (a0.size : Int)
        rotate_left
        ·rw [if_neg c19] at H
         exact absurd H (by simp)
        rw [if_pos c19] at H
        have c19b0 : decide (x9_3 < (a0.size : Int)) = true := decide_eq_true c19
        clear c19
        have H' := Aside0.mk H
        clear H
        have p20 : 0 ≤ (x9_3 : Int) := of_decide_eq_true aM
        have q20 : x9_3 < (a0.size : Int) := of_decide_eq_true aM
        have hx20 := bt_at a0 x9_3
        replace p20 := eq_true p20
        replace q20 := eq_true q20
        go_wp2
        go_roundg k3
        case measure => have := HJ2.out; have := HJ5.out; have := HK3.out; omega
        case rel => exact ⟨(IntKind.u64.wrap ((IntKind.u64.wrap (x8_3 * 256)) + (IntKind.u64.wrap (bt a0 x9_3)))), (wrap64 (x9_3 + 1)), (by first | rfl | (simp; done) | (simp [*]; done)), (by first | rfl | (simp; done) | (simp [*]; done)), H', ⟨by have := HJ2.out; have := HJ5.out; have := HK3.out; omega⟩, ⟨by repeat (first | (with_reducible first | exact HB.out | apply below_alloc | apply pw_below_drewN | apply below_drew1) | exact HB.out)⟩⟩
       rw [if_neg c17] at H
       have c17b0 : decide (x9_3 < (wrap64 ((wrap64 (a1 + 1)) + t200))) = false := decide_eq_false c17
       clear c17
       by_cases c21 : 0 ≤ a1
       rotate_left
       ·rw [if_neg c21] at H
        exact absurd H (by simp)
       rw [if_pos c21] at H
       have c21b0 : decide (0 ≤ a1) = true := decide_eq_true c21
       clear c21
       by_cases c22 : a1 < (a0.size : Int)
       rotate_left
       ·rw [if_neg c22] at H
        exact absurd H (by simp)
       rw [if_pos c22] at H
       have c22b0 : decide (a1 < (a0.size : Int)) = true := decide_eq_true c22
       clear c22
       by_cases c24 : (bt a0 a1) ≤ 240
       ·rw [if_pos c24] at H
        have c24b0 : decide ((bt a0 a1) ≤ 240) = true := decide_eq_true c24
        clear c24
        replace H := bM H
        obtain ⟨t201, A260, H⟩ := H
        replace H : (if a1 ≤ (wrap64 ((wrap64 (a1 + 1)) + t200)) then (if (wrap64 ((wrap64 (a1 + 1)) + t200)) ≤ (a0.size : Int) then (if t201.toList = (a0.extract (a1 : Int).toNat ((wrap64 ((wrap64 (a1 + 1)) + t200)) : Int).toNat).toList then (some (IntKind.u64.wrap (bt a0 a1), (wrap64 ((wrap64 (a1 + 1)) + t200)), 0)) else (some (0, 0, 3))) else (none)) else (none)) = some (r1, r2, r3) := H
        have A26 := Aside0.mk A260
        clear A260
        have c27b0 := eq_true (of_decide_eq_true aM : 0 ≤ a1)
        by_cases c28 : a1 ≤ (wrap64 ((wrap64 (a1 + 1)) + t200))
        rotate_left
        ·rw [if_neg c28] at H
         exact absurd H (by simp)
        rw [if_pos c28] at H
        have c28b0 := eq_true c28
        have c28b1 : decide (a1 ≤ (wrap64 ((wrap64 (a1 + 1)) + t200))) = true := decide_eq_true c28
        by_cases c29 : (wrap64 ((wrap64 (a1 + 1)) + t200)) ≤ (a0.size : Int)
        rotate_left
        ·rw [if_neg c29] at H
         exact absurd H (by simp)
        rw [if_pos c29] at H
        have c29b0 := eq_true c29
        have c29b1 : decide ((wrap64 ((wrap64 (a1 + 1)) + t200)) ≤ (a0.size : Int)) = true := decide_eq_true c29
        obtain ⟨js30, hjs30⟩ : ∃ j_ : ByteArray, (a0.extract (a1 : Int).toNat ((wrap64 ((wrap64 (a1 + 1)) + t200)) : Int).toNat) = j_ := ⟨_, rfl⟩
        replace H : (if t201.toList = (js30).toList then (some (IntKind.u64.wrap (bt a0 a1), (wrap64 ((wrap64 (a1 + 1)) + t200)), 0)) else (some (0, 0, 3))) = some (r1, r2, r3) := by first | (rw [hjs30] at H; exact H) | (simp only [hjs30] at H ⊢; exact H)
        (try rw [hjs30] at A26)
        by_cases c31 : t201.toList = (js30).toList
        rotate_left
        ·rw [if_neg c31] at H
         have c31b0 : (t201.toList == (js30).toList) = false := beq_eq_false_iff_ne.mpr c31
         have c31b1 : (t201.toList != (js30).toList) = true := bne_iff_ne.mpr c31
         simp only [Option.some.injEq, Prod.mk.injEq] at H
         obtain ⟨rfl, rfl, rfl⟩ := H
         have p23 : 0 ≤ (a1 : Int) := of_decide_eq_true aM
         have q23 : a1 < (a0.size : Int) := of_decide_eq_true aM
         have hx23 := bt_at a0 a1
         replace p23 := eq_true p23
         replace q23 := eq_true q23
         have p25 : 0 ≤ (a1 : Int) := of_decide_eq_true aM
         have q25 : a1 < (a0.size : Int) := of_decide_eq_true aM
         have hx25 := bt_at a0 a1
         replace p25 := eq_true p25
         replace q25 := eq_true q25
         try go_wp2
         replace HB := as_ (below_drew1 HB.out)
         refine start_ (n := 7) (S := fun w' => True) (ds := []) #[ff, ff, ff, ff, ff, ff, ff] (by kernel_rfl) rfl rfl trivial (fun hHeld => ?_)
         generalize wr.drew = w34 at HB hHeld ⊢
         refine pure_ (i := 0) (N := some 82) (v := ?_) (a' := ?_) #[tt, ff, ff, ff, ff, ff, ff] rfl rfl (by kernel_rfl) (fun _ _ _ h => h) (Or.inl ⟨by rfl, ?_⟩) ?_ ?_
         rotate_left
         ·intro w'
          go_simp
          with_reducible rfl
         rotate_left
         ·exact aP
         refine pure_ (i := 2) (N := some 84) (v := ?_) (a' := ?_) #[tt, ff, tt, ff, ff, ff, ff] rfl rfl (by kernel_rfl) (fun _ _ _ h => h) (Or.inl ⟨by rfl, ?_⟩) ?_ ?_
         rotate_left
         ·intro w'
          go_simp
          with_reducible rfl
         rotate_left
         ·exact aP
         refine pure_ (i := 3) (N := some 85) (v := ?_) (a' := ?_) #[tt, ff, tt, tt, ff, ff, ff] rfl rfl (by kernel_rfl) (fun _ _ _ h => h) (Or.inl ⟨by rfl, ?_⟩) ?_ ?_
         rotate_left
         ·intro w'
          go_simp
          with_reducible rfl
         rotate_left
         ·exact aP
         refine pure_ (i := 4) (N := some 86) (v := ?_) (a' := ?_) #[tt, ff, tt, tt, tt, ff, ff] rfl rfl (by kernel_rfl) (fun _ _ _ h => h) (Or.inl ⟨by rfl, ?_⟩) ?_ ?_
         rotate_left
         ·intro w'
          go_simp
          with_reducible rfl
         rotate_left
         ·exact aP
         refine pure_ (i := 5) (N := some 87) (v := ?_) (a' := ?_) #[tt, ff, tt, tt, tt, tt, ff] rfl rfl (by kernel_rfl) (fun _ _ _ h => h) (Or.inl ⟨by rfl, ?_⟩) ?_ ?_
         rotate_left
         ·intro w'
          go_simp
          with_reducible rfl
         rotate_left
         ·exact aP
         refine one_ (i := 1) (N := some 83) #[tt, tt, tt, tt, tt, tt, ff] rfl rfl (by kernel_rfl) (by decide) (fun K hK => ?_)
         refine goes_ Tryd.func29 (by kernel_rfl) rfl #[.int .u64 (IntKind.u64.wrap (bt a0 a1))] (by rfl) rfl rfl aO ?_
         with_reducible refine (withyref01_Put.calls k3 (IntKind.u64.wrap (bt a0 a1)) t201 _ A26.out).mono ?_
         rintro e w35 ⟨rfl, hb⟩
         refine ⟨_, rfl, ?_⟩
         replace HB := as_ (below_step bA hb)
         (try clear hb)
         (try clear hb2)
         (try clear hk)
         (try clear hi)
         refine hK.out _ _ trivial (fun hHeld => ?_)
         clear hK K
         refine norm_ (a' := ?_) ?_ ?_
         rotate_left
         ·show Act.put _ (some 83) _ = _
          simp only [Act.put, List.setIfInBounds_toArray, List.set_cons_zero, List.set_cons_succ, i64_w, i32_w]
          rfl
         refine pure_ (i := 6) (N := some 88) (v := ?_) (a' := ?_) #[tt, tt, tt, tt, tt, tt, tt] rfl rfl (by kernel_rfl) (fun _ _ _ h => h) (Or.inl ⟨by rfl, ?_⟩) ?_ ?_
         rotate_left
         ·intro w'
          go_simp
          with_reducible rfl
         rotate_left
         ·exact aP
         refine done_ (by kernel_rfl) ?_
         try go_wp2
         go_ret3
         exact ⟨by first | rfl | (simp [errW_none, errW_some] <;> rfl) | (simp only [← hjs30]; first | rfl | (simp [errW_none, errW_some] <;> rfl)) | (simp [*, errW_none, errW_some] <;> rfl), by repeat (first | (with_reducible first | exact HB.out | apply below_alloc | apply pw_below_drewN | apply below_drew1) | exact HB.out)⟩
        rw [if_pos c31] at H
        have c31b0 : (t201.toList == (js30).toList) = true := beq_iff_eq.mpr c31
        have c31b1 : (t201.toList != (js30).toList) = false := bne_eq_false_iff_eq.mpr c31
        clear c31
        simp only [Option.some.injEq, Prod.mk.injEq] at H
        obtain ⟨rfl, rfl, rfl⟩ := H
        have p23 : 0 ≤ (a1 : Int) := of_decide_eq_true aM
        have q23 : a1 < (a0.size : Int) := of_decide_eq_true aM
        have hx23 := bt_at a0 a1
        replace p23 := eq_true p23
        replace q23 := eq_true q23
        have p25 : 0 ≤ (a1 : Int) := of_decide_eq_true aM
        have q25 : a1 < (a0.size : Int) := of_decide_eq_true aM
        have hx25 := bt_at a0 a1
        replace p25 := eq_true p25
        replace q25 := eq_true q25
        try go_wp2
        replace HB := as_ (below_drew1 HB.out)
        refine start_ (n := 7) (S := fun w' => True) (ds := []) #[ff, ff, ff, ff, ff, ff, ff] (by kernel_rfl) rfl rfl trivial (fun hHeld => ?_)
        generalize wr.drew = w32 at HB hHeld ⊢
        refine pure_ (i := 0) (N := some 82) (v := ?_) (a' := ?_) #[tt, ff, ff, ff, ff, ff, ff] rfl rfl (by kernel_rfl) (fun _ _ _ h => h) (Or.inl ⟨by rfl, ?_⟩) ?_ ?_
        rotate_left
        ·intro w'
         go_simp
         with_reducible rfl
        rotate_left
        ·exact aP
        refine pure_ (i := 2) (N := some 84) (v := ?_) (a' := ?_) #[tt, ff, tt, ff, ff, ff, ff] rfl rfl (by kernel_rfl) (fun _ _ _ h => h) (Or.inl ⟨by rfl, ?_⟩) ?_ ?_
        rotate_left
        ·intro w'
         go_simp
         with_reducible rfl
        rotate_left
        ·exact aP
        refine pure_ (i := 3) (N := some 85) (v := ?_) (a' := ?_) #[tt, ff, tt, tt, ff, ff, ff] rfl rfl (by kernel_rfl) (fun _ _ _ h => h) (Or.inl ⟨by rfl, ?_⟩) ?_ ?_
        rotate_left
        ·intro w'
         go_simp
         with_reducible rfl
        rotate_left
        ·exact aP
        refine pure_ (i := 4) (N := some 86) (v := ?_) (a' := ?_) #[tt, ff, tt, tt, tt, ff, ff] rfl rfl (by kernel_rfl) (fun _ _ _ h => h) (Or.inl ⟨by rfl, ?_⟩) ?_ ?_
        rotate_left
        ·intro w'
         go_simp
         with_reducible rfl
        rotate_left
        ·exact aP
        refine pure_ (i := 5) (N := some 87) (v := ?_) (a' := ?_) #[tt, ff, tt, tt, tt, tt, ff] rfl rfl (by kernel_rfl) (fun _ _ _ h => h) (Or.inl ⟨by rfl, ?_⟩) ?_ ?_
        rotate_left
        ·intro w'
         go_simp
         with_reducible rfl
        rotate_left
        ·exact aP
        refine one_ (i := 1) (N := some 83) #[tt, tt, tt, tt, tt, tt, ff] rfl rfl (by kernel_rfl) (by decide) (fun K hK => ?_)
        refine goes_ Tryd.func29 (by kernel_rfl) rfl #[.int .u64 (IntKind.u64.wrap (bt a0 a1))] (by rfl) rfl rfl aO ?_
        with_reducible refine (withyref01_Put.calls k3 (IntKind.u64.wrap (bt a0 a1)) t201 _ A26.out).mono ?_
        rintro e w33 ⟨rfl, hb⟩
        refine ⟨_, rfl, ?_⟩
        replace HB := as_ (below_step bA hb)
        (try clear hb)
        (try clear hb2)
        (try clear hk)
        (try clear hi)
        refine hK.out _ _ trivial (fun hHeld => ?_)
        clear hK K
        refine norm_ (a' := ?_) ?_ ?_
        rotate_left
        ·show Act.put _ (some 83) _ = _
         simp only [Act.put, List.setIfInBounds_toArray, List.set_cons_zero, List.set_cons_succ, i64_w, i32_w]
         rfl
        refine pure_ (i := 6) (N := some 88) (v := ?_) (a' := ?_) #[tt, tt, tt, tt, tt, tt, tt] rfl rfl (by kernel_rfl) (fun _ _ _ h => h) (Or.inl ⟨by rfl, ?_⟩) ?_ ?_
        rotate_left
        ·intro w'
         go_simp
         with_reducible rfl
        rotate_left
        ·exact aP
        refine done_ (by kernel_rfl) ?_
        try go_wp2
        go_ret3
        exact ⟨by first | rfl | (simp [errW_none, errW_some] <;> rfl) | (simp only [← hjs30]; first | rfl | (simp [errW_none, errW_some] <;> rfl)) | (simp [*, errW_none, errW_some] <;> rfl), by repeat (first | (with_reducible first | exact HB.out | apply below_alloc | apply pw_below_drewN | apply below_drew1) | exact HB.out)⟩
       rw [if_neg c24] at H
       have c24b0 : decide ((bt a0 a1) ≤ 240) = false := decide_eq_false c24
       clear c24
       by_cases c37 : (bt a0 a1) ≤ 248
       ·rw [if_pos c37] at H
        have c37b0 : decide ((bt a0 a1) ≤ 248) = true := decide_eq_true c37
        clear c37
        replace H := bM H
        obtain ⟨t202, A390, H⟩ := H
        replace H : (if a1 ≤ (wrap64 ((wrap64 (a1 + 1)) + t200)) then (if (wrap64 ((wrap64 (a1 + 1)) + t200)) ≤ (a0.size : Int) then (if t202.toList = (a0.extract (a1 : Int).toNat ((wrap64 ((wrap64 (a1 + 1)) + t200)) : Int).toNat).toList then (some (IntKind.u64.wrap ((IntKind.u64.wrap (240 + (IntKind.u64.wrap (256 * (IntKind.u64.wrap ((IntKind.u64.wrap (bt a0 a1)) - 241)))))) + x8_3), (wrap64 ((wrap64 (a1 + 1)) + t200)), 0)) else (some (0, 0, 3))) else (none)) else (none)) = some (r1, r2, r3) := H
        have A39 := Aside0.mk A390
        clear A390
        have c40b0 := eq_true (of_decide_eq_true aM : 0 ≤ a1)
        by_cases c41 : a1 ≤ (wrap64 ((wrap64 (a1 + 1)) + t200))
        rotate_left
        ·rw [if_neg c41] at H
         exact absurd H (by simp)
        rw [if_pos c41] at H
        have c41b0 := eq_true c41
        have c41b1 : decide (a1 ≤ (wrap64 ((wrap64 (a1 + 1)) + t200))) = true := decide_eq_true c41
        by_cases c42 : (wrap64 ((wrap64 (a1 + 1)) + t200)) ≤ (a0.size : Int)
        rotate_left
        ·rw [if_neg c42] at H
         exact absurd H (by simp)
        rw [if_pos c42] at H
        have c42b0 := eq_true c42
        have c42b1 : decide ((wrap64 ((wrap64 (a1 + 1)) + t200)) ≤ (a0.size : Int)) = true := decide_eq_true c42
        obtain ⟨js43, hjs43⟩ : ∃ j_ : ByteArray, (a0.extract (a1 : Int).toNat ((wrap64 ((wrap64 (a1 + 1)) + t200)) : Int).toNat) = j_ := ⟨_, rfl⟩
        replace H : (if t202.toList = (js43).toList then (some (IntKind.u64.wrap ((IntKind.u64.wrap (240 + (IntKind.u64.wrap (256 * (IntKind.u64.wrap ((IntKind.u64.wrap (bt a0 a1)) - 241)))))) + x8_3), (wrap64 ((wrap64 (a1 + 1)) + t200)), 0)) else (some (0, 0, 3))) = some (r1, r2, r3) := by first | (rw [hjs43] at H; exact H) | (simp only [hjs43] at H ⊢; exact H)
        (try rw [hjs43] at A39)
        by_cases c44 : t202.toList = (js43).toList
        rotate_left
        ·rw [if_neg c44] at H
         have c44b0 : (t202.toList == (js43).toList) = false := beq_eq_false_iff_ne.mpr c44
         have c44b1 : (t202.toList != (js43).toList) = true := bne_iff_ne.mpr c44
         simp only [Option.some.injEq, Prod.mk.injEq] at H
         obtain ⟨rfl, rfl, rfl⟩ := H
         have p23 : 0 ≤ (a1 : Int) := of_decide_eq_true aM
         have q23 : a1 < (a0.size : Int) := of_decide_eq_true aM
         have hx23 := bt_at a0 a1
         replace p23 := eq_true p23
         replace q23 := eq_true q23
         have p36 : 0 ≤ (a1 : Int) := of_decide_eq_true aM
         have q36 : a1 < (a0.size : Int) := of_decide_eq_true aM
         have hx36 := bt_at a0 a1
         replace p36 := eq_true p36
         replace q36 := eq_true q36
         have p38 : 0 ≤ (a1 : Int) := of_decide_eq_true aM
         have q38 : a1 < (a0.size : Int) := of_decide_eq_true aM
         have hx38 := bt_at a0 a1
         replace p38 := eq_true p38
         replace q38 := eq_true q38
         try go_wp2
         replace HB := as_ (below_drew1 HB.out)
         refine start_ (n := 7) (S := fun w' => True) (ds := []) #[ff, ff, ff, ff, ff, ff, ff] (by kernel_rfl) rfl rfl trivial (fun hHeld => ?_)
         generalize wr.drew = w47 at HB hHeld ⊢
         refine pure_ (i := 0) (N := some 82) (v := ?_) (a' := ?_) #[tt, ff, ff, ff, ff, ff, ff] rfl rfl (by kernel_rfl) (fun _ _ _ h => h) (Or.inl ⟨by rfl, ?_⟩) ?_ ?_
         rotate_left
         ·intro w'
          go_simp
          with_reducible rfl
         rotate_left
         ·exact aP
         refine pure_ (i := 2) (N := some 84) (v := ?_) (a' := ?_) #[tt, ff, tt, ff, ff, ff, ff] rfl rfl (by kernel_rfl) (fun _ _ _ h => h) (Or.inl ⟨by rfl, ?_⟩) ?_ ?_
         rotate_left
         ·intro w'
          go_simp
          with_reducible rfl
         rotate_left
         ·exact aP
         refine pure_ (i := 3) (N := some 85) (v := ?_) (a' := ?_) #[tt, ff, tt, tt, ff, ff, ff] rfl rfl (by kernel_rfl) (fun _ _ _ h => h) (Or.inl ⟨by rfl, ?_⟩) ?_ ?_
         rotate_left
         ·intro w'
          go_simp
          with_reducible rfl
         rotate_left
         ·exact aP
         refine pure_ (i := 4) (N := some 86) (v := ?_) (a' := ?_) #[tt, ff, tt, tt, tt, ff, ff] rfl rfl (by kernel_rfl) (fun _ _ _ h => h) (Or.inl ⟨by rfl, ?_⟩) ?_ ?_
         rotate_left
         ·intro w'
          go_simp
          with_reducible rfl
         rotate_left
         ·exact aP
         refine pure_ (i := 5) (N := some 87) (v := ?_) (a' := ?_) #[tt, ff, tt, tt, tt, tt, ff] rfl rfl (by kernel_rfl) (fun _ _ _ h => h) (Or.inl ⟨by rfl, ?_⟩) ?_ ?_
         rotate_left
         ·intro w'
          go_simp
          with_reducible rfl
         rotate_left
         ·exact aP
         refine one_ (i := 1) (N := some 83) #[tt, tt, tt, tt, tt, tt, ff] rfl rfl (by kernel_rfl) (by decide) (fun K hK => ?_)
         refine goes_ Tryd.func29 (by kernel_rfl) rfl #[.int .u64 (IntKind.u64.wrap ((IntKind.u64.wrap (240 + (IntKind.u64.wrap (256 * (IntKind.u64.wrap ((IntKind.u64.wrap (bt a0 a1)) - 241)))))) + x8_3))] (by rfl) rfl rfl aO ?_
         with_reducible refine (withyref01_Put.calls k3 (IntKind.u64.wrap ((IntKind.u64.wrap (240 + (IntKind.u64.wrap (256 * (IntKind.u64.wrap ((IntKind.u64.wrap (bt a0 a1)) - 241)))))) + x8_3)) t202 _ A39.out).mono ?_
         rintro e w48 ⟨rfl, hb⟩
         refine ⟨_, rfl, ?_⟩
         replace HB := as_ (below_step bA hb)
         (try clear hb)
         (try clear hb2)
         (try clear hk)
         (try clear hi)
         refine hK.out _ _ trivial (fun hHeld => ?_)
         clear hK K
         refine norm_ (a' := ?_) ?_ ?_
         rotate_left
         ·show Act.put _ (some 83) _ = _
          simp only [Act.put, List.setIfInBounds_toArray, List.set_cons_zero, List.set_cons_succ, i64_w, i32_w]
          rfl
         refine pure_ (i := 6) (N := some 88) (v := ?_) (a' := ?_) #[tt, tt, tt, tt, tt, tt, tt] rfl rfl (by kernel_rfl) (fun _ _ _ h => h) (Or.inl ⟨by rfl, ?_⟩) ?_ ?_
         rotate_left
         ·intro w'
          go_simp
          with_reducible rfl
         rotate_left
         ·exact aP
         refine done_ (by kernel_rfl) ?_
         try go_wp2
         go_ret3
         exact ⟨by first | rfl | (simp [errW_none, errW_some] <;> rfl) | (simp only [← hjs43]; first | rfl | (simp [errW_none, errW_some] <;> rfl)) | (simp [*, errW_none, errW_some] <;> rfl), by repeat (first | (with_reducible first | exact HB.out | apply below_alloc | apply pw_below_drewN | apply below_drew1) | exact HB.out)⟩
        rw [if_pos c44] at H
        have c44b0 : (t202.toList == (js43).toList) = true := beq_iff_eq.mpr c44
        have c44b1 : (t202.toList != (js43).toList) = false := bne_eq_false_iff_eq.mpr c44
        clear c44
        simp only [Option.some.injEq, Prod.mk.injEq] at H
        obtain ⟨rfl, rfl, rfl⟩ := H
        have p23 : 0 ≤ (a1 : Int) := of_decide_eq_true aM
        have q23 : a1 < (a0.size : Int) := of_decide_eq_true aM
        have hx23 := bt_at a0 a1
        replace p23 := eq_true p23
        replace q23 := eq_true q23
        have p36 : 0 ≤ (a1 : Int) := of_decide_eq_true aM
        have q36 : a1 < (a0.size : Int) := of_decide_eq_true aM
        have hx36 := bt_at a0 a1
        replace p36 := eq_true p36
        replace q36 := eq_true q36
        have p38 : 0 ≤ (a1 : Int) := of_decide_eq_true aM
        have q38 : a1 < (a0.size : Int) := of_decide_eq_true aM
        have hx38 := bt_at a0 a1
        replace p38 := eq_true p38
        replace q38 := eq_true q38
        try go_wp2
        replace HB := as_ (below_drew1 HB.out)
        refine start_ (n := 7) (S := fun w' => True) (ds := []) #[ff, ff, ff, ff, ff, ff, ff] (by kernel_rfl) rfl rfl trivial (fun hHeld => ?_)
        generalize wr.drew = w45 at HB hHeld ⊢
        refine pure_ (i := 0) (N := some 82) (v := ?_) (a' := ?_) #[tt, ff, ff, ff, ff, ff, ff] rfl rfl (by kernel_rfl) (fun _ _ _ h => h) (Or.inl ⟨by rfl, ?_⟩) ?_ ?_
        rotate_left
        ·intro w'
         go_simp
         with_reducible rfl
        rotate_left
        ·exact aP
        refine pure_ (i := 2) (N := some 84) (v := ?_) (a' := ?_) #[tt, ff, tt, ff, ff, ff, ff] rfl rfl (by kernel_rfl) (fun _ _ _ h => h) (Or.inl ⟨by rfl, ?_⟩) ?_ ?_
        rotate_left
        ·intro w'
         go_simp
         with_reducible rfl
        rotate_left
        ·exact aP
        refine pure_ (i := 3) (N := some 85) (v := ?_) (a' := ?_) #[tt, ff, tt, tt, ff, ff, ff] rfl rfl (by kernel_rfl) (fun _ _ _ h => h) (Or.inl ⟨by rfl, ?_⟩) ?_ ?_
        rotate_left
        ·intro w'
         go_simp
         with_reducible rfl
        rotate_left
        ·exact aP
        refine pure_ (i := 4) (N := some 86) (v := ?_) (a' := ?_) #[tt, ff, tt, tt, tt, ff, ff] rfl rfl (by kernel_rfl) (fun _ _ _ h => h) (Or.inl ⟨by rfl, ?_⟩) ?_ ?_
        rotate_left
        ·intro w'
         go_simp
         with_reducible rfl
        rotate_left
        ·exact aP
        refine pure_ (i := 5) (N := some 87) (v := ?_) (a' := ?_) #[tt, ff, tt, tt, tt, tt, ff] rfl rfl (by kernel_rfl) (fun _ _ _ h => h) (Or.inl ⟨by rfl, ?_⟩) ?_ ?_
        rotate_left
        ·intro w'
         go_simp
         with_reducible rfl
        rotate_left
        ·exact aP
        refine one_ (i := 1) (N := some 83) #[tt, tt, tt, tt, tt, tt, ff] rfl rfl (by kernel_rfl) (by decide) (fun K hK => ?_)
        refine goes_ Tryd.func29 (by kernel_rfl) rfl #[.int .u64 (IntKind.u64.wrap ((IntKind.u64.wrap (240 + (IntKind.u64.wrap (256 * (IntKind.u64.wrap ((IntKind.u64.wrap (bt a0 a1)) - 241)))))) + x8_3))] (by rfl) rfl rfl aO ?_
        with_reducible refine (withyref01_Put.calls k3 (IntKind.u64.wrap ((IntKind.u64.wrap (240 + (IntKind.u64.wrap (256 * (IntKind.u64.wrap ((IntKind.u64.wrap (bt a0 a1)) - 241)))))) + x8_3)) t202 _ A39.out).mono ?_
        rintro e w46 ⟨rfl, hb⟩
        refine ⟨_, rfl, ?_⟩
        replace HB := as_ (below_step bA hb)
        (try clear hb)
        (try clear hb2)
        (try clear hk)
        (try clear hi)
        refine hK.out _ _ trivial (fun hHeld => ?_)
        clear hK K
        refine norm_ (a' := ?_) ?_ ?_
        rotate_left
        ·show Act.put _ (some 83) _ = _
         simp only [Act.put, List.setIfInBounds_toArray, List.set_cons_zero, List.set_cons_succ, i64_w, i32_w]
         rfl
        refine pure_ (i := 6) (N := some 88) (v := ?_) (a' := ?_) #[tt, tt, tt, tt, tt, tt, tt] rfl rfl (by kernel_rfl) (fun _ _ _ h => h) (Or.inl ⟨by rfl, ?_⟩) ?_ ?_
        rotate_left
        ·intro w'
         go_simp
         with_reducible rfl
        rotate_left
        ·exact aP
        refine done_ (by kernel_rfl) ?_
        try go_wp2
        go_ret3
        exact ⟨by first | rfl | (simp [errW_none, errW_some] <;> rfl) | (simp only [← hjs43]; first | rfl | (simp [errW_none, errW_some] <;> rfl)) | (simp [*, errW_none, errW_some] <;> rfl), by repeat (first | (with_reducible first | exact HB.out | apply below_alloc | apply pw_below_drewN | apply below_drew1) | exact HB.out)⟩
       rw [if_neg c37] at H
       have c37b0 : decide ((bt a0 a1) ≤ 248) = false := decide_eq_false c37
       clear c37
       by_cases c50 : (bt a0 a1) = 249
       rotate_left
       ·rw [if_neg c50] at H
        have c50b0 : ((bt a0 a1) == 249) = false := beq_eq_false_iff_ne.mpr c50
        have c50b1 : ((bt a0 a1) != 249) = true := bne_iff_ne.mpr c50
        replace H := bM H
        obtain ⟨t204, A610, H⟩ := H
        replace H : (if a1 ≤ (wrap64 ((wrap64 (a1 + 1)) + t200)) then (if (wrap64 ((wrap64 (a1 + 1)) + t200)) ≤ (a0.size : Int) then (if t204.toList = (a0.extract (a1 : Int).toNat ((wrap64 ((wrap64 (a1 + 1)) + t200)) : Int).toNat).toList then (some (x8_3, (wrap64 ((wrap64 (a1 + 1)) + t200)), 0)) else (some (0, 0, 3))) else (none)) else (none)) = some (r1, r2, r3) := H
        have A61 := Aside0.mk A610
        clear A610
        have c62b0 := eq_true (of_decide_eq_true aM : 0 ≤ a1)
        by_cases c63 : a1 ≤ (wrap64 ((wrap64 (a1 + 1)) + t200))
        rotate_left
        ·rw [if_neg c63] at H
         exact absurd H (by simp)
        rw [if_pos c63] at H
        have c63b0 := eq_true c63
        have c63b1 : decide (a1 ≤ (wrap64 ((wrap64 (a1 + 1)) + t200))) = true := decide_eq_true c63
        by_cases c64 : (wrap64 ((wrap64 (a1 + 1)) + t200)) ≤ (a0.size : Int)
        rotate_left
        ·rw [if_neg c64] at H
         exact absurd H (by simp)
        rw [if_pos c64] at H
        have c64b0 := eq_true c64
        have c64b1 : decide ((wrap64 ((wrap64 (a1 + 1)) + t200)) ≤ (a0.size : Int)) = true := decide_eq_true c64
        obtain ⟨js65, hjs65⟩ : ∃ j_ : ByteArray, (a0.extract (a1 : Int).toNat ((wrap64 ((wrap64 (a1 + 1)) + t200)) : Int).toNat) = j_ := ⟨_, rfl⟩
        replace H : (if t204.toList = (js65).toList then (some (x8_3, (wrap64 ((wrap64 (a1 + 1)) + t200)), 0)) else (some (0, 0, 3))) = some (r1, r2, r3) := by first | (rw [hjs65] at H; exact H) | (simp only [hjs65] at H ⊢; exact H)
        (try rw [hjs65] at A61)
        by_cases c66 : t204.toList = (js65).toList
        rotate_left
        ·rw [if_neg c66] at H
         have c66b0 : (t204.toList == (js65).toList) = false := beq_eq_false_iff_ne.mpr c66
         have c66b1 : (t204.toList != (js65).toList) = true := bne_iff_ne.mpr c66
         simp only [Option.some.injEq, Prod.mk.injEq] at H
         obtain ⟨rfl, rfl, rfl⟩ := H
         have p23 : 0 ≤ (a1 : Int) := of_decide_eq_true aM
         have q23 : a1 < (a0.size : Int) := of_decide_eq_true aM
         have hx23 := bt_at a0 a1
         replace p23 := eq_true p23
         replace q23 := eq_true q23
         have p36 : 0 ≤ (a1 : Int) := of_decide_eq_true aM
         have q36 : a1 < (a0.size : Int) := of_decide_eq_true aM
         have hx36 := bt_at a0 a1
         replace p36 := eq_true p36
         replace q36 := eq_true q36
         have p49 : 0 ≤ (a1 : Int) := of_decide_eq_true aM
         have q49 : a1 < (a0.size : Int) := of_decide_eq_true aM
         have hx49 := bt_at a0 a1
         replace p49 := eq_true p49
         replace q49 := eq_true q49
         try go_wp2
         replace HB := as_ (below_drew1 HB.out)
         refine start_ (n := 7) (S := fun w' => True) (ds := []) #[ff, ff, ff, ff, ff, ff, ff] (by kernel_rfl) rfl rfl trivial (fun hHeld => ?_)
         generalize wr.drew = w69 at HB hHeld ⊢
         refine pure_ (i := 0) (N := some 82) (v := ?_) (a' := ?_) #[tt, ff, ff, ff, ff, ff, ff] rfl rfl (by kernel_rfl) (fun _ _ _ h => h) (Or.inl ⟨by rfl, ?_⟩) ?_ ?_
         rotate_left
         ·intro w'
          go_simp
          with_reducible rfl
         rotate_left
         ·exact aP
         refine pure_ (i := 2) (N := some 84) (v := ?_) (a' := ?_) #[tt, ff, tt, ff, ff, ff, ff] rfl rfl (by kernel_rfl) (fun _ _ _ h => h) (Or.inl ⟨by rfl, ?_⟩) ?_ ?_
         rotate_left
         ·intro w'
          go_simp
          with_reducible rfl
         rotate_left
         ·exact aP
         refine pure_ (i := 3) (N := some 85) (v := ?_) (a' := ?_) #[tt, ff, tt, tt, ff, ff, ff] rfl rfl (by kernel_rfl) (fun _ _ _ h => h) (Or.inl ⟨by rfl, ?_⟩) ?_ ?_
         rotate_left
         ·intro w'
          go_simp
          with_reducible rfl
         rotate_left
         ·exact aP
         refine pure_ (i := 4) (N := some 86) (v := ?_) (a' := ?_) #[tt, ff, tt, tt, tt, ff, ff] rfl rfl (by kernel_rfl) (fun _ _ _ h => h) (Or.inl ⟨by rfl, ?_⟩) ?_ ?_
         rotate_left
         ·intro w'
          go_simp
          with_reducible rfl
         rotate_left
         ·exact aP
         refine pure_ (i := 5) (N := some 87) (v := ?_) (a' := ?_) #[tt, ff, tt, tt, tt, tt, ff] rfl rfl (by kernel_rfl) (fun _ _ _ h => h) (Or.inl ⟨by rfl, ?_⟩) ?_ ?_
         rotate_left
         ·intro w'
          go_simp
          with_reducible rfl
         rotate_left
         ·exact aP
         refine one_ (i := 1) (N := some 83) #[tt, tt, tt, tt, tt, tt, ff] rfl rfl (by kernel_rfl) (by decide) (fun K hK => ?_)
         refine goes_ Tryd.func29 (by kernel_rfl) rfl #[.int .u64 x8_3] (by rfl) rfl rfl aO ?_
         with_reducible refine (withyref01_Put.calls k3 x8_3 t204 _ A61.out).mono ?_
         rintro e w70 ⟨rfl, hb⟩
         refine ⟨_, rfl, ?_⟩
         replace HB := as_ (below_step bA hb)
         (try clear hb)
         (try clear hb2)
         (try clear hk)
         (try clear hi)
         refine hK.out _ _ trivial (fun hHeld => ?_)
         clear hK K
         refine norm_ (a' := ?_) ?_ ?_
         rotate_left
         ·show Act.put _ (some 83) _ = _
          simp only [Act.put, List.setIfInBounds_toArray, List.set_cons_zero, List.set_cons_succ, i64_w, i32_w]
          rfl
         refine pure_ (i := 6) (N := some 88) (v := ?_) (a' := ?_) #[tt, tt, tt, tt, tt, tt, tt] rfl rfl (by kernel_rfl) (fun _ _ _ h => h) (Or.inl ⟨by rfl, ?_⟩) ?_ ?_
         rotate_left
         ·intro w'
          go_simp
          with_reducible rfl
         rotate_left
         ·exact aP
         refine done_ (by kernel_rfl) ?_
         try go_wp2
         go_ret3
         exact ⟨by first | rfl | (simp [errW_none, errW_some] <;> rfl) | (simp only [← hjs65]; first | rfl | (simp [errW_none, errW_some] <;> rfl)) | (simp [*, errW_none, errW_some] <;> rfl), by repeat (first | (with_reducible first | exact HB.out | apply below_alloc | apply pw_below_drewN | apply below_drew1) | exact HB.out)⟩
        rw [if_pos c66] at H
        have c66b0 : (t204.toList == (js65).toList) = true := beq_iff_eq.mpr c66
        have c66b1 : (t204.toList != (js65).toList) = false := bne_eq_false_iff_eq.mpr c66
        clear c66
        simp only [Option.some.injEq, Prod.mk.injEq] at H
        obtain ⟨rfl, rfl, rfl⟩ := H
        have p23 : 0 ≤ (a1 : Int) := of_decide_eq_true aM
        have q23 : a1 < (a0.size : Int) := of_decide_eq_true aM
        have hx23 := bt_at a0 a1
        replace p23 := eq_true p23
        replace q23 := eq_true q23
        have p36 : 0 ≤ (a1 : Int) := of_decide_eq_true aM
        have q36 : a1 < (a0.size : Int) := of_decide_eq_true aM
        have hx36 := bt_at a0 a1
        replace p36 := eq_true p36
        replace q36 := eq_true q36
        have p49 : 0 ≤ (a1 : Int) := of_decide_eq_true aM
        have q49 : a1 < (a0.size : Int) := of_decide_eq_true aM
        have hx49 := bt_at a0 a1
        replace p49 := eq_true p49
        replace q49 := eq_true q49
        try go_wp2
        replace HB := as_ (below_drew1 HB.out)
        refine start_ (n := 7) (S := fun w' => True) (ds := []) #[ff, ff, ff, ff, ff, ff, ff] (by kernel_rfl) rfl rfl trivial (fun hHeld => ?_)
        generalize wr.drew = w67 at HB hHeld ⊢
        refine pure_ (i := 0) (N := some 82) (v := ?_) (a' := ?_) #[tt, ff, ff, ff, ff, ff, ff] rfl rfl (by kernel_rfl) (fun _ _ _ h => h) (Or.inl ⟨by rfl, ?_⟩) ?_ ?_
        rotate_left
        ·intro w'
         go_simp
         with_reducible rfl
        rotate_left
        ·exact aP
        refine pure_ (i := 2) (N := some 84) (v := ?_) (a' := ?_) #[tt, ff, tt, ff, ff, ff, ff] rfl rfl (by kernel_rfl) (fun _ _ _ h => h) (Or.inl ⟨by rfl, ?_⟩) ?_ ?_
        rotate_left
        ·intro w'
         go_simp
         with_reducible rfl
        rotate_left
        ·exact aP
        refine pure_ (i := 3) (N := some 85) (v := ?_) (a' := ?_) #[tt, ff, tt, tt, ff, ff, ff] rfl rfl (by kernel_rfl) (fun _ _ _ h => h) (Or.inl ⟨by rfl, ?_⟩) ?_ ?_
        rotate_left
        ·intro w'
         go_simp
         with_reducible rfl
        rotate_left
        ·exact aP
        refine pure_ (i := 4) (N := some 86) (v := ?_) (a' := ?_) #[tt, ff, tt, tt, tt, ff, ff] rfl rfl (by kernel_rfl) (fun _ _ _ h => h) (Or.inl ⟨by rfl, ?_⟩) ?_ ?_
        rotate_left
        ·intro w'
         go_simp
         with_reducible rfl
        rotate_left
        ·exact aP
        refine pure_ (i := 5) (N := some 87) (v := ?_) (a' := ?_) #[tt, ff, tt, tt, tt, tt, ff] rfl rfl (by kernel_rfl) (fun _ _ _ h => h) (Or.inl ⟨by rfl, ?_⟩) ?_ ?_
        rotate_left
        ·intro w'
         go_simp
         with_reducible rfl
        rotate_left
        ·exact aP
        refine one_ (i := 1) (N := some 83) #[tt, tt, tt, tt, tt, tt, ff] rfl rfl (by kernel_rfl) (by decide) (fun K hK => ?_)
        refine goes_ Tryd.func29 (by kernel_rfl) rfl #[.int .u64 x8_3] (by rfl) rfl rfl aO ?_
        with_reducible refine (withyref01_Put.calls k3 x8_3 t204 _ A61.out).mono ?_
        rintro e w68 ⟨rfl, hb⟩
        refine ⟨_, rfl, ?_⟩
        replace HB := as_ (below_step bA hb)
        (try clear hb)
        (try clear hb2)
        (try clear hk)
        (try clear hi)
        refine hK.out _ _ trivial (fun hHeld => ?_)
        clear hK K
        refine norm_ (a' := ?_) ?_ ?_
        rotate_left
        ·show Act.put _ (some 83) _ = _
         simp only [Act.put, List.setIfInBounds_toArray, List.set_cons_zero, List.set_cons_succ, i64_w, i32_w]
         rfl
        refine pure_ (i := 6) (N := some 88) (v := ?_) (a' := ?_) #[tt, tt, tt, tt, tt, tt, tt] rfl rfl (by kernel_rfl) (fun _ _ _ h => h) (Or.inl ⟨by rfl, ?_⟩) ?_ ?_
        rotate_left
        ·intro w'
         go_simp
         with_reducible rfl
        rotate_left
        ·exact aP
        refine done_ (by kernel_rfl) ?_
        try go_wp2
        go_ret3
        exact ⟨by first | rfl | (simp [errW_none, errW_some] <;> rfl) | (simp only [← hjs65]; first | rfl | (simp [errW_none, errW_some] <;> rfl)) | (simp [*, errW_none, errW_some] <;> rfl), by repeat (first | (with_reducible first | exact HB.out | apply below_alloc | apply pw_below_drewN | apply below_drew1) | exact HB.out)⟩
       rw [if_pos c50] at H
       have c50b0 : ((bt a0 a1) == 249) = true := beq_iff_eq.mpr c50
       have c50b1 : ((bt a0 a1) != 249) = false := bne_eq_false_iff_eq.mpr c50
       clear c50
       replace H := bM H
       obtain ⟨t203, A510, H⟩ := H
       replace H : (if a1 ≤ (wrap64 ((wrap64 (a1 + 1)) + t200)) then (if (wrap64 ((wrap64 (a1 + 1)) + t200)) ≤ (a0.size : Int) then (if t203.toList = (a0.extract (a1 : Int).toNat ((wrap64 ((wrap64 (a1 + 1)) + t200)) : Int).toNat).toList then (some (IntKind.u64.wrap (2288 + x8_3), (wrap64 ((wrap64 (a1 + 1)) + t200)), 0)) else (some (0, 0, 3))) else (none)) else (none)) = some (r1, r2, r3) := H
       have A51 := Aside0.mk A510
       clear A510
       have c52b0 := eq_true (of_decide_eq_true aM : 0 ≤ a1)
       by_cases c53 : a1 ≤ (wrap64 ((wrap64 (a1 + 1)) + t200))
       rotate_left
       ·rw [if_neg c53] at H
        exact absurd H (by simp)
       rw [if_pos c53] at H
       have c53b0 := eq_true c53
       have c53b1 : decide (a1 ≤ (wrap64 ((wrap64 (a1 + 1)) + t200))) = true := decide_eq_true c53
       by_cases c54 : (wrap64 ((wrap64 (a1 + 1)) + t200)) ≤ (a0.size : Int)
       rotate_left
       ·rw [if_neg c54] at H
        exact absurd H (by simp)
       rw [if_pos c54] at H
       have c54b0 := eq_true c54
       have c54b1 : decide ((wrap64 ((wrap64 (a1 + 1)) + t200)) ≤ (a0.size : Int)) = true := decide_eq_true c54
       obtain ⟨js55, hjs55⟩ : ∃ j_ : ByteArray, (a0.extract (a1 : Int).toNat ((wrap64 ((wrap64 (a1 + 1)) + t200)) : Int).toNat) = j_ := ⟨_, rfl⟩
       replace H : (if t203.toList = (js55).toList then (some (IntKind.u64.wrap (2288 + x8_3), (wrap64 ((wrap64 (a1 + 1)) + t200)), 0)) else (some (0, 0, 3))) = some (r1, r2, r3) := by first | (rw [hjs55] at H; exact H) | (simp only [hjs55] at H ⊢; exact H)
       (try rw [hjs55] at A51)
       by_cases c56 : t203.toList = (js55).toList
       rotate_left
       ·rw [if_neg c56] at H
        have c56b0 : (t203.toList == (js55).toList) = false := beq_eq_false_iff_ne.mpr c56
        have c56b1 : (t203.toList != (js55).toList) = true := bne_iff_ne.mpr c56
        simp only [Option.some.injEq, Prod.mk.injEq] at H
        obtain ⟨rfl, rfl, rfl⟩ := H
        have p23 : 0 ≤ (a1 : Int) := of_decide_eq_true aM
        have q23 : a1 < (a0.size : Int) := of_decide_eq_true aM
        have hx23 := bt_at a0 a1
        replace p23 := eq_true p23
        replace q23 := eq_true q23
        have p36 : 0 ≤ (a1 : Int) := of_decide_eq_true aM
        have q36 : a1 < (a0.size : Int) := of_decide_eq_true aM
        have hx36 := bt_at a0 a1
        replace p36 := eq_true p36
        replace q36 := eq_true q36
        have p49 : 0 ≤ (a1 : Int) := of_decide_eq_true aM
        have q49 : a1 < (a0.size : Int) := of_decide_eq_true aM
        have hx49 := bt_at a0 a1
        replace p49 := eq_true p49
        replace q49 := eq_true q49
        try go_wp2
        replace HB := as_ (below_drew1 HB.out)
        refine start_ (n := 7) (S := fun w' => True) (ds := []) #[ff, ff, ff, ff, ff, ff, ff] (by kernel_rfl) rfl rfl trivial (fun hHeld => ?_)
        generalize wr.drew = w59 at HB hHeld ⊢
        refine pure_ (i := 0) (N := some 82) (v := ?_) (a' := ?_) #[tt, ff, ff, ff, ff, ff, ff] rfl rfl (by kernel_rfl) (fun _ _ _ h => h) (Or.inl ⟨by rfl, ?_⟩) ?_ ?_
        rotate_left
        ·intro w'
         go_simp
         with_reducible rfl
        rotate_left
        ·exact aP
        refine pure_ (i := 2) (N := some 84) (v := ?_) (a' := ?_) #[tt, ff, tt, ff, ff, ff, ff] rfl rfl (by kernel_rfl) (fun _ _ _ h => h) (Or.inl ⟨by rfl, ?_⟩) ?_ ?_
        rotate_left
        ·intro w'
         go_simp
         with_reducible rfl
        rotate_left
        ·exact aP
        refine pure_ (i := 3) (N := some 85) (v := ?_) (a' := ?_) #[tt, ff, tt, tt, ff, ff, ff] rfl rfl (by kernel_rfl) (fun _ _ _ h => h) (Or.inl ⟨by rfl, ?_⟩) ?_ ?_
        rotate_left
        ·intro w'
         go_simp
         with_reducible rfl
        rotate_left
        ·exact aP
        refine pure_ (i := 4) (N := some 86) (v := ?_) (a' := ?_) #[tt, ff, tt, tt, tt, ff, ff] rfl rfl (by kernel_rfl) (fun _ _ _ h => h) (Or.inl ⟨by rfl, ?_⟩) ?_ ?_
        rotate_left
        ·intro w'
         go_simp
         with_reducible rfl
        rotate_left
        ·exact aP
        refine pure_ (i := 5) (N := some 87) (v := ?_) (a' := ?_) #[tt, ff, tt, tt, tt, tt, ff] rfl rfl (by kernel_rfl) (fun _ _ _ h => h) (Or.inl ⟨by rfl, ?_⟩) ?_ ?_
        rotate_left
        ·intro w'
         go_simp
         with_reducible rfl
        rotate_left
        ·exact aP
        refine one_ (i := 1) (N := some 83) #[tt, tt, tt, tt, tt, tt, ff] rfl rfl (by kernel_rfl) (by decide) (fun K hK => ?_)
        refine goes_ Tryd.func29 (by kernel_rfl) rfl #[.int .u64 (IntKind.u64.wrap (2288 + x8_3))] (by rfl) rfl rfl aO ?_
        with_reducible refine (withyref01_Put.calls k3 (IntKind.u64.wrap (2288 + x8_3)) t203 _ A51.out).mono ?_
        rintro e w60 ⟨rfl, hb⟩
        refine ⟨_, rfl, ?_⟩
        replace HB := as_ (below_step bA hb)
        (try clear hb)
        (try clear hb2)
        (try clear hk)
        (try clear hi)
        refine hK.out _ _ trivial (fun hHeld => ?_)
        clear hK K
        refine norm_ (a' := ?_) ?_ ?_
        rotate_left
        ·show Act.put _ (some 83) _ = _
         simp only [Act.put, List.setIfInBounds_toArray, List.set_cons_zero, List.set_cons_succ, i64_w, i32_w]
         rfl
        refine pure_ (i := 6) (N := some 88) (v := ?_) (a' := ?_) #[tt, tt, tt, tt, tt, tt, tt] rfl rfl (by kernel_rfl) (fun _ _ _ h => h) (Or.inl ⟨by rfl, ?_⟩) ?_ ?_
        rotate_left
        ·intro w'
         go_simp
         with_reducible rfl
        rotate_left
        ·exact aP
        refine done_ (by kernel_rfl) ?_
        try go_wp2
        go_ret3
        exact ⟨by first | rfl | (simp [errW_none, errW_some] <;> rfl) | (simp only [← hjs55]; first | rfl | (simp [errW_none, errW_some] <;> rfl)) | (simp [*, errW_none, errW_some] <;> rfl), by repeat (first | (with_reducible first | exact HB.out | apply below_alloc | apply pw_below_drewN | apply below_drew1) | exact HB.out)⟩
       rw [if_pos c56] at H
       have c56b0 : (t203.toList == (js55).toList) = true := beq_iff_eq.mpr c56
       have c56b1 : (t203.toList != (js55).toList) = false := bne_eq_false_iff_eq.mpr c56
       clear c56
       simp only [Option.some.injEq, Prod.mk.injEq] at H
       obtain ⟨rfl, rfl, rfl⟩ := H
       have p23 : 0 ≤ (a1 : Int) := of_decide_eq_true aM
       have q23 : a1 < (a0.size : Int) := of_decide_eq_true aM
       have hx23 := bt_at a0 a1
       replace p23 := eq_true p23
       replace q23 := eq_true q23
       have p36 : 0 ≤ (a1 : Int) := of_decide_eq_true aM
       have q36 : a1 < (a0.size : Int) := of_decide_eq_true aM
       have hx36 := bt_at a0 a1
       replace p36 := eq_true p36
       replace q36 := eq_true q36
       have p49 : 0 ≤ (a1 : Int) := of_decide_eq_true aM
       have q49 : a1 < (a0.size : Int) := of_decide_eq_true aM
       have hx49 := bt_at a0 a1
       replace p49 := eq_true p49
       replace q49 := eq_true q49
       try go_wp2
       replace HB := as_ (below_drew1 HB.out)
       refine start_ (n := 7) (S := fun w' => True) (ds := []) #[ff, ff, ff, ff, ff, ff, ff] (by kernel_rfl) rfl rfl trivial (fun hHeld => ?_)
       generalize wr.drew = w57 at HB hHeld ⊢
       refine pure_ (i := 0) (N := some 82) (v := ?_) (a' := ?_) #[tt, ff, ff, ff, ff, ff, ff] rfl rfl (by kernel_rfl) (fun _ _ _ h => h) (Or.inl ⟨by rfl, ?_⟩) ?_ ?_
       rotate_left
       ·intro w'
        go_simp
        with_reducible rfl
       rotate_left
       ·exact aP
       refine pure_ (i := 2) (N := some 84) (v := ?_) (a' := ?_) #[tt, ff, tt, ff, ff, ff, ff] rfl rfl (by kernel_rfl) (fun _ _ _ h => h) (Or.inl ⟨by rfl, ?_⟩) ?_ ?_
       rotate_left
       ·intro w'
        go_simp
        with_reducible rfl
       rotate_left
       ·exact aP
       refine pure_ (i := 3) (N := some 85) (v := ?_) (a' := ?_) #[tt, ff, tt, tt, ff, ff, ff] rfl rfl (by kernel_rfl) (fun _ _ _ h => h) (Or.inl ⟨by rfl, ?_⟩) ?_ ?_
       rotate_left
       ·intro w'
        go_simp
        with_reducible rfl
       rotate_left
       ·exact aP
       refine pure_ (i := 4) (N := some 86) (v := ?_) (a' := ?_) #[tt, ff, tt, tt, tt, ff, ff] rfl rfl (by kernel_rfl) (fun _ _ _ h => h) (Or.inl ⟨by rfl, ?_⟩) ?_ ?_
       rotate_left
       ·intro w'
        go_simp
        with_reducible rfl
       rotate_left
       ·exact aP
       refine pure_ (i := 5) (N := some 87) (v := ?_) (a' := ?_) #[tt, ff, tt, tt, tt, tt, ff] rfl rfl (by kernel_rfl) (fun _ _ _ h => h) (Or.inl ⟨by rfl, ?_⟩) ?_ ?_
       rotate_left
       ·intro w'
        go_simp
        with_reducible rfl
       rotate_left
       ·exact aP
       refine one_ (i := 1) (N := some 83) #[tt, tt, tt, tt, tt, tt, ff] rfl rfl (by kernel_rfl) (by decide) (fun K hK => ?_)
       refine goes_ Tryd.func29 (by kernel_rfl) rfl #[.int .u64 (IntKind.u64.wrap (2288 + x8_3))] (by rfl) rfl rfl aO ?_
       with_reducible refine (withyref01_Put.calls k3 (IntKind.u64.wrap (2288 + x8_3)) t203 _ A51.out).mono ?_
       rintro e w58 ⟨rfl, hb⟩
       refine ⟨_, rfl, ?_⟩
       replace HB := as_ (below_step bA hb)
       (try clear hb)
       (try clear hb2)
       (try clear hk)
       (try clear hi)
       refine hK.out _ _ trivial (fun hHeld => ?_)
       clear hK K
       refine norm_ (a' := ?_) ?_ ?_
       rotate_left
       ·show Act.put _ (some 83) _ = _
        simp only [Act.put, List.setIfInBounds_toArray, List.set_cons_zero, List.set_cons_succ, i64_w, i32_w]
        rfl
       refine pure_ (i := 6) (N := some 88) (v := ?_) (a' := ?_) #[tt, tt, tt, tt, tt, tt, tt] rfl rfl (by kernel_rfl) (fun _ _ _ h => h) (Or.inl ⟨by rfl, ?_⟩) ?_ ?_
       rotate_left
       ·intro w'
        go_simp
        with_reducible rfl
       rotate_left
       ·exact aP
       refine done_ (by kernel_rfl) ?_
       try go_wp2
       go_ret3
       exact ⟨by first | rfl | (simp [errW_none, errW_some] <;> rfl) | (simp only [← hjs55]; first | rfl | (simp [errW_none, errW_some] <;> rfl)) | (simp [*, errW_none, errW_some] <;> rfl), by repeat (first | (with_reducible first | exact HB.out | apply below_alloc | apply pw_below_drewN | apply below_drew1) | exact HB.out)⟩
/-! ### withyref03_text: function 34 -/
def withyref03_text.l0 : Nat → ByteArray → Int → List Int → Option (ByteArray × Int × Int)
 | 0, _, _, _ => none
 | k + 1, x0, x1, x7 => if x1 < (x0.size : Int) then (if 0 ≤ x1 then (if (bt x0 x1) = 0 then (if (wrap64 (x1 + 1)) = (x0.size : Int) then (some ((⟨#[]⟩ : ByteArray), 0, 7)) else (if 0 ≤ (wrap64 (x1 + 1)) then (if (wrap64 (x1 + 1)) < (x0.size : Int) then (if (bt x0 (wrap64 (x1 + 1))) = 1 then (some (strOfNums x7, wrap64 (x1 + 2), 0)) else (if (bt x0 (wrap64 (x1 + 1))) = 255 then (if x7.length < 140737488355328 then (withyref03_text.l0 k x0 (wrap64 (x1 + 2)) (x7 ++ [0])) else (none)) else (some ((⟨#[]⟩ : ByteArray), 0, 3)))) else (none)) else (none))) else (if x7.length < 140737488355328 then (withyref03_text.l0 k x0 (wrap64 (x1 + 1)) (x7 ++ [bt x0 x1])) else (none))) else (none)) else (some ((⟨#[]⟩ : ByteArray), 0, 7))
def withyref03_text.f (k : Nat) (a0 : ByteArray) (a1 : Int) : Option (ByteArray × Int × Int) := withyref03_text.l0 k a0 a1 (([] : List Int))
theorem withyref03_text.mono_l : ∀ k, (∀ y0 y1 y2, LeO (withyref03_text.l0 k y0 y1 y2) (withyref03_text.l0 (k + 1) y0 y1 y2))
 | 0 => fun _ _ _ r h => by simp [withyref03_text.l0] at h
 | k + 1 => by
  have ih0 := withyref03_text.mono_l k
  ·intro y0 y1 y2
   unfold withyref03_text.l0
   repeat' first
   | (with_reducible exact ih0 _ _ _)
   | (with_reducible exact LeO.refl _)
   | (with_reducible exact LeO.none _)
   | (with_reducible refine LeO.ite ?_ ?_)
   | (with_reducible refine LeO.bind ?_ (fun _ => ?_))
   | exact ih0 _ _ _
   | exact LeO.none _
   | refine LeO.ite ?_ ?_
   | refine LeO.bind ?_ (fun _ => ?_)
theorem withyref03_text.mono : ∀ a0 a1 k, LeO (withyref03_text.f k a0 a1) (withyref03_text.f (k + 1) a0 a1) := by
 intro a0 a1 k
 have ih0 := withyref03_text.mono_l k
 unfold withyref03_text.f
 repeat' first
   | (with_reducible exact ih0 _ _ _)
   | (with_reducible exact LeO.refl _)
   | (with_reducible exact LeO.none _)
   | (with_reducible refine LeO.ite ?_ ?_)
   | (with_reducible refine LeO.bind ?_ (fun _ => ?_))
   | exact ih0 _ _ _
   | exact LeO.none _
   | refine LeO.ite ?_ ?_
   | refine LeO.bind ?_ (fun _ => ?_)
set_option maxHeartbeats 8000000 in
set_option maxRecDepth 100000 in
theorem withyref03_text.calls (k : Nat) (a0 : ByteArray) (a1 : Int) (r1 : ByteArray) (r2 : Int) (r3 : Int) (w : World) (h : withyref03_text.f k a0 a1 = some (r1, r2, r3)) :
  Calls Tryd.prog 34 #[.string a0, .int .i64 a1] w fun e w' => e = .returned (.tuple #[.string r1, .int .i64 r2, .int .i64 r3]) ∧ Below w.heap.size w w' := by
 have HB := as_ (Below.refl w.heap.size w)
 have H : (withyref03_text.l0 k a0 a1 (([] : List Int))) = some (r1, r2, r3) := h
 clear h
 obtain ⟨y205, hy205⟩ : ∃ y_ : List Int, y_ = (([] : List Int)) := ⟨_, rfl⟩
 replace H : (withyref03_text.l0 k a0 a1 y205) = some (r1, r2, r3) := by first | (rw [hy205]; with_reducible exact H) | (have H2_ := (Option.bind_some _ _).symm.trans H; rw [hy205]; with_reducible exact H2_) | (have H2_ := (Option.bind_some _ _).symm.trans H; with_reducible exact H2_) | with_reducible exact H | (rw [hy205]; exact H) | exact H
 have Ny205 := Aside0.mk hy205
 clear hy205
 have H' := Aside0.mk H
 clear H
 go_enter Tryd.func34, Tryd.ntmps34
 go_wp2_with (first | ((with_reducible refine gate_dst (N := 8) rfl ?_); refine Kd.R_lit (Kd.int .u8) _ 5 ?hg (N := 8) ?hd (xs := ([] : List Int)) (inner := []) (ok := fun _ => True) (okp := fun _ => True) ?hr ?hp (fun _ hk => hk) trivial (Below.refl _ _) (Nat.le_refl _) (by simp) ?_; (case hd => rfl); (case hg => rfl); (case hr => first | (go_simp; done) | (go_simp; rfl)); (case hp => exact (Reps.none _ _)); intro v206 w3 ho4 hb hg_ hnew_; clear hg_ hnew_; (first | rw [← Ny205.out] at ho4 | (simp only [Int.reduceToNat] at ho4; rw [← Ny205.out] at ho4)); have HO207 := as_ (Kd.R_lower ho4 (below_size bA)); replace HB := as_ (below_step bA hb); clear hb ho4))
 go_loopg [1, 7] k (fun kq v1 v7 w' => ∃ (x1_1 : Int) (x7_1 : List Int), v1 = .int .i64 x1_1 ∧ Aside0 (withyref03_text.l0 kq a0 x1_1 x7_1 = some (r1, r2, r3)) ∧ Aside0 (kq ≤ k) ∧ Aside0 (Kd.R (Kd.int .u8) 5 w' w.heap.size (fun _ => True) v7 x7_1) ∧ Aside0 (Below w.heap.size w w'))
 case atStart => exact ⟨(a1), (y205), (by first | rfl | (simp; done) | (simp [*]; done)), H', ⟨Nat.le_refl _⟩, ⟨by (with_reducible repeat (first | apply Kd.R_alloc | apply Kd.R_drewN | apply Kd.R_drew)); exact HO207.out⟩, ⟨by repeat (first | (with_reducible first | exact HB.out | apply below_alloc | apply pw_below_drewN | apply below_drew1) | exact HB.out)⟩⟩
 case round =>
  clear H'
  try clear p2
  try clear c3
  obtain ⟨x1_1, x7_1, rfl, HA, HK1, HO_7, HB⟩ := hrel
  cases gk with
  | zero => exact absurd HA.out (by simp [withyref03_text.l0])
  | succ k1 =>
   have H := HA.out
   clear HA
   simp only [withyref03_text.l0] at H
   by_cases c5 : x1_1 < (a0.size : Int)
   rotate_left
   ·rw [if_neg c5] at H
    have c5b0 : decide (x1_1 < (a0.size : Int)) = false := decide_eq_false c5
    clear c5
    simp only [Option.some.injEq, Prod.mk.injEq] at H
    obtain ⟨rfl, rfl, rfl⟩ := H
    go_wp2
    go_ret3
    exact ⟨eW, by repeat (first | (with_reducible first | exact HB.out | apply below_alloc | apply pw_below_drewN | apply below_drew1) | exact HB.out)⟩
 
   rw [if_pos c5] at H
   have c5b0 : decide (x1_1 < (a0.size : Int)) = true := decide_eq_true c5
   clear c5
   by_cases c6 : 0 ≤ x1_1
   rotate_left
   ·rw [if_neg c6] at H
    exact absurd H (by simp)
   rw [if_pos c6] at H
   have c6b0 : decide (0 ≤ x1_1) = true := decide_eq_true c6
   clear c6
   by_cases c8 : (bt a0 x1_1) = 0
   rotate_left
   ·rw [if_neg c8] at H
    have c8b0 : ((bt a0 x1_1) == 0) = false := beq_eq_false_iff_ne.mpr c8
    have c8b1 : ((bt a0 x1_1) != 0) = true := bne_iff_ne.mpr c8
    by_cases c21 : x7_1.length < 140737488355328
    rotate_left
    ·rw [if_neg c21] at H
     exact absurd H (by simp)
    rw [if_pos c21] at H
    have LMc21 := Aside0.mk c21
    clear c21
    obtain ⟨y208, hy208⟩ : ∃ y_ : List Int, y_ = (x7_1 ++ [bt a0 x1_1]) := ⟨_, rfl⟩
    replace H : (withyref03_text.l0 k1 a0 (wrap64 (x1_1 + 1)) y208) = some (r1, r2, r3) := by first | (rw [hy208]; with_reducible exact H) | (have H2_ := (Option.bind_some _ _).symm.trans H; rw [hy208]; with_reducible exact H2_) | (have H2_ := (Option.bind_some _ _).symm.trans H; with_reducible exact H2_) | with_reducible exact H | (rw [hy208]; exact H) | exact H
    have Ny208 := Aside0.mk hy208
    clear hy208
    have H' := Aside0.mk H
    clear H
    have p7 : 0 ≤ (x1_1 : Int) := of_decide_eq_true aM
    have q7 : x1_1 < (a0.size : Int) := of_decide_eq_true aM
    have hx7 := bt_at a0 x1_1
    replace p7 := eq_true p7
    replace q7 := eq_true q7
    have p20 : 0 ≤ (x1_1 : Int) := of_decide_eq_true aM
    have q20 : x1_1 < (a0.size : Int) := of_decide_eq_true aM
    have hx20 := bt_at a0 x1_1
    replace p20 := eq_true p20
    replace q20 := eq_true q20
    go_wp2_with (first | ((with_reducible refine gate_builtin (b := .append) (xs := #[.tmp 17, .tmp 21]) rfl ?_); at_builtin; refine Kd.R_append (Kd.int .u8) (w0 := w) w.heap.size rfl (.tmp 17) (.tmp 21) 49 5 (.int .u8 0) 1 rfl Tryd.underlying49 info5 rfl (by decide) (by omega) u7 x7_1 (bt a0 x1_1) [.int .u8 (bt a0 x1_1)] (fun _ => True) (fun _ => False) rfl rfl ?aP (fun _ hk => hk.elim) ?aF ?aO ?aB ?aS ?aL ?_; (case aP => exact rfl); (case aB => exact bA); (case aF => exact (fun _ _ => trivial)); (case aO => exact (by (with_reducible repeat (first | apply Kd.R_alloc | apply Kd.R_drewN | apply Kd.R_drew)); exact HO_7.out)); (case aS => exact (below_size bA)); (case aL => have := LMc21.out; omega); intro v209 w22 ho hb hg hat; rw [← Ny208.out] at ho; have HO210 := as_ (ho); replace HB := as_ (hb); clear HO_7; clear ho hb hg hat))
    go_roundg k1
    case measure => have := HK1.out; omega
    case rel => exact ⟨(wrap64 (x1_1 + 1)), (y208), (by first | rfl | (simp; done) | (simp [*]; done)), H', ⟨by have := HK1.out; omega⟩, ⟨by (with_reducible repeat (first | apply Kd.R_alloc | apply Kd.R_drewN | apply Kd.R_drew)); exact HO210.out⟩, ⟨by repeat (first | (with_reducible first | exact HB.out | apply below_alloc | apply pw_below_drewN | apply below_drew1) | exact HB.out)⟩⟩
   rw [if_pos c8] at H
   have c8b0 : ((bt a0 x1_1) == 0) = true := beq_iff_eq.mpr c8
   have c8b1 : ((bt a0 x1_1) != 0) = false := bne_eq_false_iff_eq.mpr c8
   clear c8
   by_cases c9 : (wrap64 (x1_1 + 1)) = (a0.size : Int)
   ·rw [if_pos c9] at H
    have c9b0 : ((wrap64 (x1_1 + 1)) == (a0.size : Int)) = true := beq_iff_eq.mpr c9
    have c9b1 : ((wrap64 (x1_1 + 1)) != (a0.size : Int)) = false := bne_eq_false_iff_eq.mpr c9
    clear c9
    simp only [Option.some.injEq, Prod.mk.injEq] at H
    obtain ⟨rfl, rfl, rfl⟩ := H
    have p7 : 0 ≤ (x1_1 : Int) := of_decide_eq_true aM
    have q7 : x1_1 < (a0.size : Int) := of_decide_eq_true aM
    have hx7 := bt_at a0 x1_1
    replace p7 := eq_true p7
    replace q7 := eq_true q7
    go_wp2
    go_ret3
    exact ⟨eW, by repeat (first | (with_reducible first | exact HB.out | apply below_alloc | apply pw_below_drewN | apply below_drew1) | exact HB.out)⟩
   rw [if_neg c9] at H
   have c9b0 : ((wrap64 (x1_1 + 1)) == (a0.size : Int)) = false := beq_eq_false_iff_ne.mpr c9
   have c9b1 : ((wrap64 (x1_1 + 1)) != (a0.size : Int)) = true := bne_iff_ne.mpr c9
   obtain ⟨ji10, hji10⟩ : ∃ j_ : Int, (wrap64 (x1_1 + 1)) = j_ := ⟨_, rfl⟩
   replace H : (if 0 ≤ (ji10) then (if (ji10) < (a0.size : Int) then (if (bt a0 (ji10)) = 1 then (some (strOfNums x7_1, wrap64 (x1_1 + 2), 0)) else (if (bt a0 (ji10)) = 255 then (if x7_1.length < 140737488355328 then (withyref03_text.l0 k1 a0 (wrap64 (x1_1 + 2)) (x7_1 ++ [0])) else (none)) else (some ((⟨#[]⟩ : ByteArray), 0, 3)))) else (none)) else (none)) = some (r1, r2, r3) := by first | (rw [hji10] at H; exact H) | (simp only [hji10] at H ⊢; exact H)
   (try rw [hji10] at c9b0)
   (try rw [hji10] at c9b1)
   have hji10w : (IntKind.i64.wrap (x1_1 + 1)) = ji10 := (i64_w _).trans hji10
   by_cases c11 : 0 ≤ (ji10)
   rotate_left
   ·rw [if_neg c11] at H
    exact absurd H (by simp)
   rw [if_pos c11] at H
   have c11b0 : decide (0 ≤ (ji10)) = true := decide_eq_true c11
   clear c11
   by_cases c12 : (ji10) < (a0.size : Int)
   rotate_left
   ·rw [if_neg c12] at H
    exact absurd H (by simp)
   rw [if_pos c12] at H
   have c12b0 : decide ((ji10) < (a0.size : Int)) = true := decide_eq_true c12
   clear c12
   by_cases c14 : (bt a0 (ji10)) = 1
   ·rw [if_pos c14] at H
    have c14b0 : ((bt a0 (ji10)) == 1) = true := beq_iff_eq.mpr c14
    have c14b1 : ((bt a0 (ji10)) != 1) = false := bne_eq_false_iff_eq.mpr c14
    clear c14
    simp only [Option.some.injEq, Prod.mk.injEq] at H
    obtain ⟨rfl, rfl, rfl⟩ := H
    have p7 : 0 ≤ (x1_1 : Int) := of_decide_eq_true aM
    have q7 : x1_1 < (a0.size : Int) := of_decide_eq_true aM
    have hx7 := bt_at a0 x1_1
    replace p7 := eq_true p7
    replace q7 := eq_true q7
    have p13 : 0 ≤ ((ji10) : Int) := of_decide_eq_true aM
    have q13 : (ji10) < (a0.size : Int) := of_decide_eq_true aM
    have hx13 := bt_at a0 (ji10)
    replace p13 := eq_true p13
    replace q13 := eq_true q13
    have hcv15 := own_string (P := Tryd.prog) Tryd.underlying49 Tryd.underlying5 Tryd.underlying9 (Kd.own_of_R HO_7.out)
    go_wp2
    go_ret3
    exact ⟨by first | rfl | (simp [errW_none, errW_some] <;> rfl) | (simp only [← hji10]; first | rfl | (simp [errW_none, errW_some] <;> rfl)) | (simp [*, errW_none, errW_some] <;> rfl), by repeat (first | (with_reducible first | exact HB.out | apply below_alloc | apply pw_below_drewN | apply below_drew1) | exact HB.out)⟩
   rw [if_neg c14] at H
   have c14b0 : ((bt a0 (ji10)) == 1) = false := beq_eq_false_iff_ne.mpr c14
   have c14b1 : ((bt a0 (ji10)) != 1) = true := bne_iff_ne.mpr c14
   by_cases c17 : (bt a0 (ji10)) = 255
   rotate_left
   ·rw [if_neg c17] at H
    have c17b0 : ((bt a0 (ji10)) == 255) = false := beq_eq_false_iff_ne.mpr c17
    have c17b1 : ((bt a0 (ji10)) != 255) = true := bne_iff_ne.mpr c17
    simp only [Option.some.injEq, Prod.mk.injEq] at H
    obtain ⟨rfl, rfl, rfl⟩ := H
    have p7 : 0 ≤ (x1_1 : Int) := of_decide_eq_true aM
    have q7 : x1_1 < (a0.size : Int) := of_decide_eq_true aM
    have hx7 := bt_at a0 x1_1
    replace p7 := eq_true p7
    replace q7 := eq_true q7
    have p13 : 0 ≤ ((ji10) : Int) := of_decide_eq_true aM
    have q13 : (ji10) < (a0.size : Int) := of_decide_eq_true aM
    have hx13 := bt_at a0 (ji10)
    replace p13 := eq_true p13
    replace q13 := eq_true q13
    have p16 : 0 ≤ ((ji10) : Int) := of_decide_eq_true aM
    have q16 : (ji10) < (a0.size : Int) := of_decide_eq_true aM
    have hx16 := bt_at a0 (ji10)
    replace p16 := eq_true p16
    replace q16 := eq_true q16
    go_wp2
    go_ret3
    exact ⟨by first | rfl | (simp [errW_none, errW_some] <;> rfl) | (simp only [← hji10]; first | rfl | (simp [errW_none, errW_some] <;> rfl)) | (simp [*, errW_none, errW_some] <;> rfl), by repeat (first | (with_reducible first | exact HB.out | apply below_alloc | apply pw_below_drewN | apply below_drew1) | exact HB.out)⟩
   rw [if_pos c17] at H
   have c17b0 : ((bt a0 (ji10)) == 255) = true := beq_iff_eq.mpr c17
   have c17b1 : ((bt a0 (ji10)) != 255) = false := bne_eq_false_iff_eq.mpr c17
   clear c17
   by_cases c18 : x7_1.length < 140737488355328
   rotate_left
   ·rw [if_neg c18] at H
    exact absurd H (by simp)
   rw [if_pos c18] at H
   have LMc18 := Aside0.mk c18
   clear c18
   obtain ⟨y211, hy211⟩ : ∃ y_ : List Int, y_ = (x7_1 ++ [0]) := ⟨_, rfl⟩
   replace H : (withyref03_text.l0 k1 a0 (wrap64 (x1_1 + 2)) y211) = some (r1, r2, r3) := by first | (rw [hy211]; with_reducible exact H) | (have H2_ := (Option.bind_some _ _).symm.trans H; rw [hy211]; with_reducible exact H2_) | (have H2_ := (Option.bind_some _ _).symm.trans H; with_reducible exact H2_) | with_reducible exact H | (rw [hy211]; exact H) | exact H
   have Ny211 := Aside0.mk hy211
   clear hy211
   have H' := Aside0.mk H
   clear H
   have p7 : 0 ≤ (x1_1 : Int) := of_decide_eq_true aM
   have q7 : x1_1 < (a0.size : Int) := of_decide_eq_true aM
   have hx7 := bt_at a0 x1_1
   replace p7 := eq_true p7
   replace q7 := eq_true q7
   have p13 : 0 ≤ ((ji10) : Int) := of_decide_eq_true aM
   have q13 : (ji10) < (a0.size : Int) := of_decide_eq_true aM
   have hx13 := bt_at a0 (ji10)
   replace p13 := eq_true p13
   replace q13 := eq_true q13
   have p16 : 0 ≤ ((ji10) : Int) := of_decide_eq_true aM
   have q16 : (ji10) < (a0.size : Int) := of_decide_eq_true aM
   have hx16 := bt_at a0 (ji10)
   replace p16 := eq_true p16
   replace q16 := eq_true q16
   go_wp2_with (first | ((with_reducible refine gate_builtin (b := .append) (xs := #[.tmp 44, .tmp 45]) rfl ?_); at_builtin; refine Kd.R_append (Kd.int .u8) (w0 := w) w.heap.size rfl (.tmp 44) (.tmp 45) 49 5 (.int .u8 0) 1 rfl Tryd.underlying49 info5 rfl (by decide) (by omega) u7 x7_1 0 [.int .u8 0] (fun _ => True) (fun _ => False) rfl rfl ?aP (fun _ hk => hk.elim) ?aF ?aO ?aB ?aS ?aL ?_; (case aP => exact rfl); (case aB => exact bA); (case aF => exact (fun _ _ => trivial)); (case aO => exact (by (with_reducible repeat (first | apply Kd.R_alloc | apply Kd.R_drewN | apply Kd.R_drew)); exact HO_7.out)); (case aS => exact (below_size bA)); (case aL => have := LMc18.out; omega); intro v212 w19 ho hb hg hat; rw [← Ny211.out] at ho; have HO213 := as_ (ho); replace HB := as_ (hb); clear HO_7; clear ho hb hg hat))
   go_roundg k1
   case measure => have := HK1.out; omega
   case rel => exact ⟨(wrap64 (x1_1 + 2)), (y211), (by first | rfl | (simp; done) | (simp [*]; done)), H', ⟨by have := HK1.out; omega⟩, ⟨by (with_reducible repeat (first | apply Kd.R_alloc | apply Kd.R_drewN | apply Kd.R_drew)); exact HO213.out⟩, ⟨by repeat (first | (with_reducible first | exact HB.out | apply below_alloc | apply pw_below_drewN | apply below_drew1) | exact HB.out)⟩⟩
end Go.Proofs.YtjfgeppfkhaliaaDoor.P
