/- What is proved here: for functions of the Go text, a Lean function each, and that the call comes to just what it answers. Conditions: as each contract names them. Written by wip/tools/myprint.py, a driver of the print of the kit. -/
import Derived.Test.YtggfnlnonigkiaaGreatDoorP0
import Derived.Test.YtggfnlnonigkiaaGreatDoorP7
import Derived.Test.YtggfnlnonigkiaaGreatDoorP12
import Derived.Test.YtggfnlnonigkiaaGreatDoorWAbbr
namespace Go.Proofs.YtggfnlnonigkiaaGreatDoor.P
open Go.RowKit Go.Proofs.YtggfnlnonigkiaaGreatDoorW.PrintWords Go.Proofs.YtggfnlnonigkiaaGreatDoorW.PrintLast Go.Proofs.YtggfnlnonigkiaaGreatDoorW.PrintMore Go.Proofs.YtggfnlnonigkiaaGreatDoorW.Abbr
-- PACKED
attribute [local go_sem] max2_int min2_int max_two min_two max_three min_three max_four min_four Go.Proofs.YtggfnlnonigkiaaGreatDoorLaws.str_leq Go.Proofs.YtggfnlnonigkiaaGreatDoorLaws.str_gtr Go.Proofs.YtggfnlnonigkiaaGreatDoorLaws.str_geq Go.Proofs.YtggfnlnonigkiaaGreatDoorLaws.max2_str Go.Proofs.YtggfnlnonigkiaaGreatDoorLaws.min2_str   -- for this text's walks alone
set_option linter.unusedVariables false
set_option linter.unusedSimpArgs false

/-! ### withyref12_Decode: function 9 -/
def withyref12_Decode.j0 : Nat → ByteArray → ByteArray → Bool → Int → Int → Int → Int → Int → Option (Int × Int × ByteArray × Int)
 | 0, _, _, _, _, _, _, _, _ => none
 | k + 1, x0, x5, x29, x224000, x224001, x224002, x224003, x224004 => if x29 = true then (some (0, 0, (⟨#[]⟩ : ByteArray), 3)) else (if 0 ≤ x224002 then (if x224002 ≤ (x5.size : Int) then ((withyref12_Encode.f k x224004 x224003 (x5.extract 0 (x224002 : Int).toNat) (x0.size : Int)).bind fun bt225 => (if bt225.2 = 0 then (if bt225.1.toList = x0.toList then (some (x224004, x224003, x5.extract 0 (x224002 : Int).toNat, 0)) else (some (0, 0, (⟨#[]⟩ : ByteArray), 3))) else (some (0, 0, (⟨#[]⟩ : ByteArray), 3)))) else (none)) else (none))
def withyref12_Decode.f (k : Nat) (a0 : ByteArray) : Option (Int × Int × ByteArray × Int) := (withyref07_Open.f k a0).bind fun bt216 => (if bt216.2.2.2.2.2.2 = 0 then (if bt216.1 = 4 then (withyref12_Decode.j0 k a0 bt216.2.2.2.2.2.1 (decide (bt216.2.2.1 > (bt216.2.2.2.2.2.1.size : Int))) bt216.1 bt216.2.1 bt216.2.2.1 bt216.2.2.2.1 bt216.2.2.2.2.1) else (withyref12_Decode.j0 k a0 bt216.2.2.2.2.2.1 true bt216.1 bt216.2.1 bt216.2.2.1 bt216.2.2.2.1 bt216.2.2.2.2.1)) else (withyref12_Decode.j0 k a0 bt216.2.2.2.2.2.1 true bt216.1 bt216.2.1 bt216.2.2.1 bt216.2.2.2.1 bt216.2.2.2.2.1))
theorem withyref12_Decode.mono_l : ∀ k, (∀ y0 y1 y2 y3 y4 y5 y6 y7, LeO (withyref12_Decode.j0 k y0 y1 y2 y3 y4 y5 y6 y7) (withyref12_Decode.j0 (k + 1) y0 y1 y2 y3 y4 y5 y6 y7))
 | 0 => fun _ _ _ _ _ _ _ _ r h => by simp [withyref12_Decode.j0] at h
 | k + 1 => by
  have ih0 := withyref12_Decode.mono_l k
  ·intro y0 y1 y2 y3 y4 y5 y6 y7
   unfold withyref12_Decode.j0
   repeat' first
   | (with_reducible exact ih0 _ _ _ _ _ _ _ _)
   | (with_reducible exact withyref07_Open.mono _ _)
   | (with_reducible exact withyref12_Encode.mono _ _ _ _ _)
   | (with_reducible exact LeO.refl _)
   | (with_reducible exact LeO.none _)
   | (with_reducible refine LeO.ite ?_ ?_)
   | (with_reducible refine LeO.bind ?_ (fun _ => ?_))
   | exact ih0 _ _ _ _ _ _ _ _
   | exact withyref07_Open.mono _ _
   | exact withyref12_Encode.mono _ _ _ _ _
   | exact LeO.none _
   | refine LeO.ite ?_ ?_
   | refine LeO.bind ?_ (fun _ => ?_)
theorem withyref12_Decode.mono : ∀ a0 k, LeO (withyref12_Decode.f k a0) (withyref12_Decode.f (k + 1) a0) := by
 intro a0 k
 have ih0 := withyref12_Decode.mono_l k
 unfold withyref12_Decode.f
 repeat' first
   | (with_reducible exact ih0 _ _ _ _ _ _ _ _)
   | (with_reducible exact withyref07_Open.mono _ _)
   | (with_reducible exact withyref12_Encode.mono _ _ _ _ _)
   | (with_reducible exact LeO.refl _)
   | (with_reducible exact LeO.none _)
   | (with_reducible refine LeO.ite ?_ ?_)
   | (with_reducible refine LeO.bind ?_ (fun _ => ?_))
   | exact ih0 _ _ _ _ _ _ _ _
   | exact withyref07_Open.mono _ _
   | exact withyref12_Encode.mono _ _ _ _ _
   | exact LeO.none _
   | refine LeO.ite ?_ ?_
   | refine LeO.bind ?_ (fun _ => ?_)
def withyref12_Decode.T4 : Bool × List (List Nat × List Nat) := (true, [([], []), ([0], [0]), ([], []), ([2], [2]), ([], []), ([], []), ([5], [5]), ([4, 6], [4, 6]), ([1, 3, 7], [1, 3, 7]), ([], []), ([9, 8, 0, 1, 2, 3, 4, 5, 6, 7, 8, 9], [8, 9])])
def withyref12_Decode.B4 : List Nat := [0, 1, 0, 4, 0, 0, 32, 112, 255, 0, 1023]
theorem withyref12_Decode.tab4 : rtab .any (opsOf Tryz.f9 4) = withyref12_Decode.T4 := by kernel_rfl
theorem withyref12_Decode.bits4 : waitsOk withyref12_Decode.T4.2 withyref12_Decode.B4 = true := by kernel_rfl
set_option maxHeartbeats 8000000 in
set_option maxRecDepth 100000 in
theorem withyref12_Decode.calls (k : Nat) (a0 : ByteArray) (r1 : Int) (r2 : Int) (r3 : ByteArray) (r4 : Int) (w : World) (h : withyref12_Decode.f k a0 = some (r1, r2, r3, r4)) :
  Calls Tryz.prog 9 #[.string a0] w fun e w' => e = .returned (.tuple #[.agg #[.int .i64 r1, .int .i64 r2, .string r3], .int .i64 r4]) ∧ Below w.heap.size w w' := by
 have hu31 := Tryz.underlying31
 have hu50 := Tryz.underlying50
 have HB := as_ (Below.refl w.heap.size w)
 have H : ((withyref07_Open.f k a0).bind fun bt216 => (if bt216.2.2.2.2.2.2 = 0 then (if bt216.1 = 4 then (withyref12_Decode.j0 k a0 bt216.2.2.2.2.2.1 (decide (bt216.2.2.1 > (bt216.2.2.2.2.2.1.size : Int))) bt216.1 bt216.2.1 bt216.2.2.1 bt216.2.2.2.1 bt216.2.2.2.2.1) else (withyref12_Decode.j0 k a0 bt216.2.2.2.2.2.1 true bt216.1 bt216.2.1 bt216.2.2.1 bt216.2.2.2.1 bt216.2.2.2.2.1)) else (withyref12_Decode.j0 k a0 bt216.2.2.2.2.2.1 true bt216.1 bt216.2.1 bt216.2.2.1 bt216.2.2.2.1 bt216.2.2.2.2.1))) = some (r1, r2, r3, r4) := h
 clear h
 replace H := bM H
 obtain ⟨⟨t216, t217, t218, t219, t220, t221, t222⟩, A20, H⟩ := H
 replace H : (if t222 = 0 then (if t216 = 4 then (withyref12_Decode.j0 k a0 t221 (decide (t218 > (t221.size : Int))) t216 t217 t218 t219 t220) else (withyref12_Decode.j0 k a0 t221 true t216 t217 t218 t219 t220)) else (withyref12_Decode.j0 k a0 t221 true t216 t217 t218 t219 t220)) = some (r1, r2, r3, r4) := H
 have A2 := Aside0.mk A20
 clear A20
 have HC3 := Aside0.mk H
 clear H
 go_enter Tryz.func9, Tryz.ntmps9
 go_upto_region 2 with (first | ((with_reducible refine gate_dst (N := 2) rfl ?_); (try (refine gate_guard (by rfl) ?_; dsimp only)); refine box_event ?hg (N := 2) ?hd (cs := #[.int .i64 0, .int .i64 0, .string (⟨#[]⟩ : ByteArray)]) (t := 31) ?hr ?_; (case hd => rfl); (case hg => rfl); (case hr => first | (go_simp; done) | (go_simp; rfl)); intro gb215 hg w4 hbox hb; have BK215 := as_ (hbox); have GW215 := gw hg bA; have GE215 := gw hg bA; replace HB := as_ (below_step bA hb); clear hb hbox hg) | ((with_reducible refine gate_callee (f := 24) rfl ?_); refine goesL_ (some 12) rfl rfl Tryz.func24 (by kernel_rfl) rfl #[.string a0] rfl aO ?_; (with_reducible refine (withyref07_Open.calls k a0 t216 t217 t218 t219 t220 t221 t222 _ A2.out).mono ?_); rintro e w5 ⟨rfl, hb⟩; refine ⟨_, rfl, ?_⟩; replace BK215 := as_ (blk_below (g := gb215) (o := .cells #[.int .i64 0, .int .i64 0, .string (⟨#[]⟩ : ByteArray)] 31 (0, 0)) (bk BK215) hb); replace HB := as_ (below_step bA hb); (try clear hb); (try clear hb2); (try clear hk); (try clear hi)) | ((with_reducible refine gate_dst (N := 4) rfl ?_); (try (refine gate_guard (by rfl) ?_; dsimp only)); refine box_event (by rfl) (N := 4) (by rfl) (cs := #[.int .i64 0, .int .i64 0, .int .i64 0, .int .i64 0, .int .i64 0]) (t := 50) gS ?_; intro gb223 hg w6 hbox hb; have BK223 := as_ (hbox); have GW223 := gw hg bA; have GE223 := gw hg bA; have NB215_223 := as_ ((by rw [hg]; exact Nat.ne_of_lt (blk_lt (g := gb215) (o := .cells #[.int .i64 0, .int .i64 0, .string (⟨#[]⟩ : ByteArray)] 31 (0, 0)) (bk BK215)) : gb215 ≠ gb223)); have NB223_215 := as_ ((by rw [hg]; exact Nat.ne_of_gt (blk_lt (g := gb215) (o := .cells #[.int .i64 0, .int .i64 0, .string (⟨#[]⟩ : ByteArray)] 31 (0, 0)) (bk BK215)) : gb223 ≠ gb215)); replace BK215 := as_ (blk_below (g := gb215) (o := .cells #[.int .i64 0, .int .i64 0, .string (⟨#[]⟩ : ByteArray)] 31 (0, 0)) (bk BK215) hb); replace HB := as_ (below_step bA hb); clear hb hbox hg; have hnb7 := NB223_215.out; have hnc7 := NB215_223.out; obtain ⟨hcz8_0, hcz8_1, hcz8_2, hcz8_3, hcz8_4⟩ := zc5 BK223; obtain ⟨hfz8_0, hfz8_1, hfz8_2, hfz8_3, hfz8_4⟩ := zf5 BK223))
 (try simp only [Act.put, List.setIfInBounds_toArray, List.set_cons_zero, List.set_cons_succ])
 go_cut [29] (fun v29 wc => ∃ (kq : Nat) (x29_2 : Bool), v29 = .bool x29_2 ∧ Aside0 (withyref12_Decode.j0 kq a0 t221 x29_2 t216 t217 t218 t219 t220 = some (r1, r2, r3, r4)) ∧ Aside0 (kq ≤ k) ∧ Aside0 (wc.heap[gb215]? = some (.cells #[.int .i64 0, .int .i64 0, .string (⟨#[]⟩ : ByteArray)] 31 (0, 0))) ∧ Aside0 (wc.heap[gb223]? = some (.cells #[.int .i64 t216, .int .i64 t217, .int .i64 t218, .int .i64 t219, .int .i64 t220] 50 (0, 0))) ∧ Aside0 (Below w.heap.size w wc))
 case first =>
  have H := HC3.out
  clear HC3
  by_cases c9 : t222 = 0
  rotate_left
  ·rw [if_neg c9] at H
   have c9b0 : (t222 == 0) = false := beq_eq_false_iff_ne.mpr c9
   have c9b1 : (t222 != 0) = true := bne_iff_ne.mpr c9
   (first | rw [c9b0] | (simp only [i64_w, i32_w]; rw [c9b0]) | rw [c9b1] | skip)
   have H' := Aside0.mk H
   clear H
   go_wp2
   go_meet
   case rel => exact ⟨_, (true), (by first | rfl | (simp; done) | (simp [*]; done)), H', ⟨by first | omega | exact Nat.le_refl _⟩, ⟨by refine bx ?_; refine blk_far ?_ NB215_223.out _; refine bx ?_; refine blk_far ?_ NB215_223.out _; refine bx ?_; refine blk_far ?_ NB215_223.out _; refine bx ?_; refine blk_far ?_ NB215_223.out _; refine bx ?_; refine blk_far ?_ NB215_223.out _; refine bx ?_; exact BK215.out⟩, ⟨by refine bx ?_; refine blk_put (cs := #[.int .i64 t216, .int .i64 t217, .int .i64 t218, .int .i64 t219, .int .i64 0]) ?_ 4 _ rfl; refine bx ?_; refine blk_put (cs := #[.int .i64 t216, .int .i64 t217, .int .i64 t218, .int .i64 0, .int .i64 0]) ?_ 3 _ rfl; refine bx ?_; refine blk_put (cs := #[.int .i64 t216, .int .i64 t217, .int .i64 0, .int .i64 0, .int .i64 0]) ?_ 2 _ rfl; refine bx ?_; refine blk_put (cs := #[.int .i64 t216, .int .i64 0, .int .i64 0, .int .i64 0, .int .i64 0]) ?_ 1 _ rfl; refine bx ?_; refine blk_put (cs := #[.int .i64 0, .int .i64 0, .int .i64 0, .int .i64 0, .int .i64 0]) ?_ 0 _ rfl; refine bx ?_; exact BK223.out⟩, ⟨by repeat (first | (with_reducible first | exact HB.out | apply below_alloc | apply pw_below_drewN | apply below_drew1 | refine below_set ?_ GE215.out | refine below_set ?_ GE223.out) | exact HB.out)⟩⟩
  rw [if_pos c9] at H
  have c9b0 : (t222 == 0) = true := beq_iff_eq.mpr c9
  have c9b1 : (t222 != 0) = false := bne_eq_false_iff_eq.mpr c9
  clear c9
  (first | rw [c9b0] | (simp only [i64_w, i32_w]; rw [c9b0]) | rw [c9b1] | skip)
  by_cases c10 : t216 = 4
  rotate_left
  ·rw [if_neg c10] at H
   have c10b0 : (t216 == 4) = false := beq_eq_false_iff_ne.mpr c10
   have c10b1 : (t216 != 4) = true := bne_iff_ne.mpr c10
   have H' := Aside0.mk H
   clear H
   have hnb13 := NB223_215.out
   have hnc13 := NB215_223.out
   obtain ⟨hcz14_0, hcz14_1, hcz14_2, hcz14_3, hcz14_4⟩ := zc5 BK223
   obtain ⟨hfz14_0, hfz14_1, hfz14_2, hfz14_3, hfz14_4⟩ := zf5 BK223
   go_wp2
   go_meet
   case rel => exact ⟨_, (true), (by first | rfl | (simp; done) | (simp [*]; done)), H', ⟨by first | omega | exact Nat.le_refl _⟩, ⟨by refine bx ?_; refine blk_far ?_ NB215_223.out _; refine bx ?_; refine blk_far ?_ NB215_223.out _; refine bx ?_; refine blk_far ?_ NB215_223.out _; refine bx ?_; refine blk_far ?_ NB215_223.out _; refine bx ?_; refine blk_far ?_ NB215_223.out _; refine bx ?_; exact BK215.out⟩, ⟨by refine bx ?_; refine blk_put (cs := #[.int .i64 t216, .int .i64 t217, .int .i64 t218, .int .i64 t219, .int .i64 0]) ?_ 4 _ rfl; refine bx ?_; refine blk_put (cs := #[.int .i64 t216, .int .i64 t217, .int .i64 t218, .int .i64 0, .int .i64 0]) ?_ 3 _ rfl; refine bx ?_; refine blk_put (cs := #[.int .i64 t216, .int .i64 t217, .int .i64 0, .int .i64 0, .int .i64 0]) ?_ 2 _ rfl; refine bx ?_; refine blk_put (cs := #[.int .i64 t216, .int .i64 0, .int .i64 0, .int .i64 0, .int .i64 0]) ?_ 1 _ rfl; refine bx ?_; refine blk_put (cs := #[.int .i64 0, .int .i64 0, .int .i64 0, .int .i64 0, .int .i64 0]) ?_ 0 _ rfl; refine bx ?_; exact BK223.out⟩, ⟨by repeat (first | (with_reducible first | exact HB.out | apply below_alloc | apply pw_below_drewN | apply below_drew1 | refine below_set ?_ GE215.out | refine below_set ?_ GE223.out) | exact HB.out)⟩⟩
  rw [if_pos c10] at H
  have c10b0 : (t216 == 4) = true := beq_iff_eq.mpr c10
  have c10b1 : (t216 != 4) = false := bne_eq_false_iff_eq.mpr c10
  clear c10
  have H' := Aside0.mk H
  clear H
  have hnb11 := NB223_215.out
  have hnc11 := NB215_223.out
  obtain ⟨hcz12_0, hcz12_1, hcz12_2, hcz12_3, hcz12_4⟩ := zc5 BK223
  obtain ⟨hfz12_0, hfz12_1, hfz12_2, hfz12_3, hfz12_4⟩ := zf5 BK223
  go_wp2
  go_meet
  case rel => exact ⟨_, (decide (t218 > (t221.size : Int))), (by first | rfl | (simp; done) | (simp [*]; done)), H', ⟨by first | omega | exact Nat.le_refl _⟩, ⟨by refine bx ?_; refine blk_far ?_ NB215_223.out _; refine bx ?_; refine blk_far ?_ NB215_223.out _; refine bx ?_; refine blk_far ?_ NB215_223.out _; refine bx ?_; refine blk_far ?_ NB215_223.out _; refine bx ?_; refine blk_far ?_ NB215_223.out _; refine bx ?_; exact BK215.out⟩, ⟨by refine bx ?_; refine blk_put (cs := #[.int .i64 t216, .int .i64 t217, .int .i64 t218, .int .i64 t219, .int .i64 0]) ?_ 4 _ rfl; refine bx ?_; refine blk_put (cs := #[.int .i64 t216, .int .i64 t217, .int .i64 t218, .int .i64 0, .int .i64 0]) ?_ 3 _ rfl; refine bx ?_; refine blk_put (cs := #[.int .i64 t216, .int .i64 t217, .int .i64 0, .int .i64 0, .int .i64 0]) ?_ 2 _ rfl; refine bx ?_; refine blk_put (cs := #[.int .i64 t216, .int .i64 0, .int .i64 0, .int .i64 0, .int .i64 0]) ?_ 1 _ rfl; refine bx ?_; refine blk_put (cs := #[.int .i64 0, .int .i64 0, .int .i64 0, .int .i64 0, .int .i64 0]) ?_ 0 _ rfl; refine bx ?_; exact BK223.out⟩, ⟨by repeat (first | (with_reducible first | exact HB.out | apply below_alloc | apply pw_below_drewN | apply below_drew1 | refine below_set ?_ GE215.out | refine below_set ?_ GE223.out) | exact HB.out)⟩⟩
 case rest =>
  clear HC3
  try clear c1
  try clear c2
  try clear p2
  try clear c7
  try clear c9
  try clear c9b0
  try clear c9b1
  try clear c10
  try clear c10b0
  try clear c10b1
  try clear c11
  try clear c13
  try clear hcz12_0
  try clear hcz12_1
  try clear hcz12_2
  try clear hcz12_3
  try clear hcz12_4
  try clear hcz14_0
  try clear hcz14_1
  try clear hcz14_2
  try clear hcz14_3
  try clear hcz14_4
  try clear hcz8_0
  try clear hcz8_1
  try clear hcz8_2
  try clear hcz8_3
  try clear hcz8_4
  try clear hfz12_0
  try clear hfz12_1
  try clear hfz12_2
  try clear hfz12_3
  try clear hfz12_4
  try clear hfz14_0
  try clear hfz14_1
  try clear hfz14_2
  try clear hfz14_3
  try clear hfz14_4
  try clear hfz8_0
  try clear hfz8_1
  try clear hfz8_2
  try clear hfz8_3
  try clear hfz8_4
  obtain ⟨kq, x29_2, rfl, HA, HJ2, BK215, BK223, HB⟩ := hcut
  cases kq with
  | zero => exact absurd HA.out (by simp [withyref12_Decode.j0])
  | succ kj2 =>
   have H := HA.out
   clear HA
   simp only [withyref12_Decode.j0] at H
   by_cases c15 : x29_2 = true
   ·subst c15
    have H1 : (some (0, 0, (⟨#[]⟩ : ByteArray), 3)) = some (r1, r2, r3, r4) := by rw [if_pos rfl] at H; exact H
    clear H
    have H := H1
    clear H1
    simp only [Option.some.injEq, Prod.mk.injEq] at H
    obtain ⟨rfl, rfl, rfl, rfl⟩ := H
    have hnb16 := NB215_223.out
    have hnc16 := NB223_215.out
    obtain ⟨hcz17_0, hcz17_1, hcz17_2⟩ := zc3 BK215
    obtain ⟨hfz17_0, hfz17_1, hfz17_2⟩ := zf3 BK215
    go_wp2
    refine bodyPost_ret (results_ct rfl _ _ gb215 31 #[.int .i64 0, .int .i64 0, .string (⟨#[]⟩ : ByteArray)] (0, 0) _ rfl (by refine bx ?_; refine blk_put (cs := #[.int .i64 0, .int .i64 0, .string (⟨#[]⟩ : ByteArray)]) ?_ 2 _ rfl; refine bx ?_; refine blk_put (cs := #[.int .i64 0, .int .i64 0, .string (⟨#[]⟩ : ByteArray)]) ?_ 1 _ rfl; refine bx ?_; refine blk_put (cs := #[.int .i64 0, .int .i64 0, .string (⟨#[]⟩ : ByteArray)]) ?_ 0 _ rfl; refine bx ?_; exact BK215.out) Tryz.underlying31 rfl (by kernel_rfl)) rfl ?_
    exact ⟨eW, by repeat (first | (with_reducible first | exact HB.out | apply below_alloc | apply pw_below_drewN | apply below_drew1 | refine below_set ?_ GE215.out | refine below_set ?_ GE223.out) | exact HB.out)⟩
   replace c15 := Bool.eq_false_iff.mpr c15
   subst c15
   have H1 : (if 0 ≤ t218 then (if t218 ≤ (t221.size : Int) then ((withyref12_Encode.f kj2 t220 t219 (t221.extract 0 (t218 : Int).toNat) (a0.size : Int)).bind fun bt225 => (if bt225.2 = 0 then (if bt225.1.toList = a0.toList then (some (t220, t219, t221.extract 0 (t218 : Int).toNat, 0)) else (some (0, 0, (⟨#[]⟩ : ByteArray), 3))) else (some (0, 0, (⟨#[]⟩ : ByteArray), 3)))) else (none)) else (none)) = some (r1, r2, r3, r4) := by rw [if_neg (show ¬ (false = true) by decide)] at H; exact H
   clear H
   have H := H1
   clear H1
   by_cases c18 : 0 ≤ t218
   rotate_left
   ·rw [if_neg c18] at H
    exact absurd H (by simp)
 
   rw [if_pos c18] at H
   have c18b0 := eq_true c18
   have c18b1 : decide (0 ≤ t218) = true := decide_eq_true c18
   clear c18
   by_cases c19 : t218 ≤ (t221.size : Int)
   rotate_left
   ·rw [if_neg c19] at H
    exact absurd H (by simp)
   rw [if_pos c19] at H
   have c19b0 := eq_true c19
   have c19b1 : decide (t218 ≤ (t221.size : Int)) = true := decide_eq_true c19
   clear c19
   obtain ⟨js20, hjs20⟩ : ∃ j_ : ByteArray, (t221.extract 0 (t218 : Int).toNat) = j_ := ⟨_, rfl⟩
   replace H : ((withyref12_Encode.f kj2 t220 t219 (js20) (a0.size : Int)).bind fun bt225 => (if bt225.2 = 0 then (if bt225.1.toList = a0.toList then (some (t220, t219, js20, 0)) else (some (0, 0, (⟨#[]⟩ : ByteArray), 3))) else (some (0, 0, (⟨#[]⟩ : ByteArray), 3)))) = some (r1, r2, r3, r4) := by first | (rw [hjs20] at H; exact H) | (simp only [hjs20] at H ⊢; exact H)
   replace H := bM H
   obtain ⟨⟨t225, t226⟩, A210, H⟩ := H
   replace H : (if t226 = 0 then (if t225.toList = a0.toList then (some (t220, t219, js20, 0)) else (some (0, 0, (⟨#[]⟩ : ByteArray), 3))) else (some (0, 0, (⟨#[]⟩ : ByteArray), 3))) = some (r1, r2, r3, r4) := H
   have A21 := Aside0.mk A210
   clear A210
   by_cases c22 : t226 = 0
   rotate_left
   ·rw [if_neg c22] at H
    have c22b0 : (t226 == 0) = false := beq_eq_false_iff_ne.mpr c22
    have c22b1 : (t226 != 0) = true := bne_iff_ne.mpr c22
    simp only [Option.some.injEq, Prod.mk.injEq] at H
    obtain ⟨rfl, rfl, rfl, rfl⟩ := H
    try go_wp2
    replace BK215 := as_ (blk_drew BK215.out)
    replace BK223 := as_ (blk_drew BK223.out)
    replace HB := as_ (below_drew1 HB.out)
    refine start_ (n := 11) (S := fun w' => w'.cell? ⟨gb223, 0, none⟩ = some (.int .i64 t216) ∧ w'.cell? ⟨gb223, 1, none⟩ = some (.int .i64 t217) ∧ w'.cell? ⟨gb223, 2, none⟩ = some (.int .i64 t218) ∧ w'.cell? ⟨gb223, 3, none⟩ = some (.int .i64 t219) ∧ w'.cell? ⟨gb223, 4, none⟩ = some (.int .i64 t220)) (ds := []) #[ff, ff, ff, ff, ff, ff, ff, ff, ff, ff, ff] (by kernel_rfl) rfl rfl ⟨(blk_cell BK223.out 0).trans rfl, (blk_cell BK223.out 1).trans rfl, (blk_cell BK223.out 2).trans rfl, (blk_cell BK223.out 3).trans rfl, (blk_cell BK223.out 4).trans rfl⟩ (fun hHeld => ?_); refine with_tabW withyref12_Decode.tab4 withyref12_Decode.bits4 (fun HT_ HW_ => ?_)
    generalize wc.drew = w47 at BK215 BK223 HB hHeld ⊢
    refine pure_ (i := 0) (N := some 31) (v := ?_) (a' := ?_) #[tt, ff, ff, ff, ff, ff, ff, ff, ff, ff, ff] rfl rfl (any_of HT_.out (by kernel_rfl)) (fun _ _ _ h => h) (Or.inl ⟨by rfl, ?_⟩) ?_ ?_
    rotate_left
    ·intro w'
     go_simp
     with_reducible rfl
    rotate_left
    ·exact aP
    refine pure_ (i := 2) (N := some 33) (v := ?_) (a' := ?_) #[tt, ff, tt, ff, ff, ff, ff, ff, ff, ff, ff] rfl rfl (any_of HT_.out (by kernel_rfl)) (fun _ _ _ h => h) (Or.inl ⟨by rfl, ?_⟩) ?_ ?_
    rotate_left
    ·intro w'
     go_simp
     with_reducible rfl
    rotate_left
    ·exact aP
    refine pure_ (i := 4) (N := some 35) (v := ?_) (a' := ?_) #[tt, ff, tt, ff, tt, ff, ff, ff, ff, ff, ff] rfl rfl (any_of HT_.out (by kernel_rfl)) (fun _ _ _ h => h) (Or.inl ⟨by rfl, ?_⟩) ?_ ?_
    rotate_left
    ·intro w'
     go_simp
     with_reducible rfl
    rotate_left
    ·exact aP
    refine pure_ (i := 5) (N := some 36) (v := ?_) (a' := ?_) #[tt, ff, tt, ff, tt, tt, ff, ff, ff, ff, ff] rfl rfl (any_of HT_.out (by kernel_rfl)) (fun _ _ _ h => h) (Or.inl ⟨by rfl, ?_⟩) ?_ ?_
    rotate_left
    ·intro w'
     go_simp
     with_reducible rfl
    rotate_left
    ·exact aP
    refine take_ (i := 1) (N := some 32) (v := ?_) (a' := ?_) #[tt, tt, tt, ff, tt, tt, ff, ff, ff, ff, ff] rfl rfl (take_ofW HT_.out HW_.out (by kernel_rfl)) (fun _ _ _ h => h) (Or.inl ⟨by rfl, ?_⟩) hHeld ?_ ?_
    rotate_left
    ·rintro w' ⟨s0, s1, s2, s3, s4⟩
     go_simp
     with_reducible rfl
    rotate_left
    ·exact aP
    refine take_ (i := 3) (N := some 34) (v := ?_) (a' := ?_) #[tt, tt, tt, tt, tt, tt, ff, ff, ff, ff, ff] rfl rfl (take_ofW HT_.out HW_.out (by kernel_rfl)) (fun _ _ _ h => h) (Or.inl ⟨by rfl, ?_⟩) hHeld ?_ ?_
    rotate_left
    ·rintro w' ⟨s0, s1, s2, s3, s4⟩
     go_simp
     with_reducible rfl
    rotate_left
    ·exact aP
    refine take_ (i := 6) (N := some 37) (v := ?_) (a' := ?_) #[tt, tt, tt, tt, tt, tt, tt, ff, ff, ff, ff] rfl rfl (take_ofW HT_.out HW_.out (by kernel_rfl)) (fun _ _ _ h => h) (Or.inl ⟨by rfl, ?_⟩) hHeld ?_ ?_
    rotate_left
    ·rintro w' ⟨s0, s1, s2, s3, s4⟩
     go_simp
     with_reducible rfl
    rotate_left
    ·exact aP
    refine pure_ (i := 7) (N := some 38) (v := ?_) (a' := ?_) #[tt, tt, tt, tt, tt, tt, tt, tt, ff, ff, ff] rfl rfl (any_of HT_.out (by kernel_rfl)) (fun _ _ _ h => h) (Or.inl ⟨by rfl, ?_⟩) ?_ ?_
    rotate_left
    ·intro w'
     go_simp
     with_reducible rfl
    rotate_left
    ·exact aP
    refine pure_ (i := 8) (N := some 39) (v := ?_) (a' := ?_) #[tt, tt, tt, tt, tt, tt, tt, tt, tt, ff, ff] rfl rfl (any_of HT_.out (by kernel_rfl)) (fun _ _ _ h => h) (Or.inl ⟨by rfl, ?_⟩) ?_ ?_
    rotate_left
    ·intro w'
     go_simp
     with_reducible rfl
    rotate_left
    ·exact aP
    refine one_ (i := 9) (N := some 7) #[tt, tt, tt, tt, tt, tt, tt, tt, tt, tt, ff] rfl rfl (one_of HT_.out (by kernel_rfl)) (by decide) (fun K hK => ?_)
    refine box_step ?hg (N := 7) ?hd (cs := #[.int .i64 0, .int .i64 0, .string (⟨#[]⟩ : ByteArray)]) (t := 31) ?hr ?_; (case hd => rfl); (case hg => rfl); (case hr => first | (go_simp; done) | (go_simp; rfl))
    intro gb224 hg w48 hbox hb
    have BK224 := as_ (hbox)
    have GW224 := gw hg bA
    have GE224 := gw hg bA
    have NB215_224 := as_ ((by rw [hg]; exact Nat.ne_of_lt (blk_lt (g := gb215) (o := .cells #[.int .i64 0, .int .i64 0, .string (⟨#[]⟩ : ByteArray)] 31 (0, 0)) (bk BK215)) : gb215 ≠ gb224))
    have NB224_215 := as_ ((by rw [hg]; exact Nat.ne_of_gt (blk_lt (g := gb215) (o := .cells #[.int .i64 0, .int .i64 0, .string (⟨#[]⟩ : ByteArray)] 31 (0, 0)) (bk BK215)) : gb224 ≠ gb215))
    have NB223_224 := nl BK223 hg
    have NB224_223 := ng BK223 hg
    replace BK215 := as_ (blk_below (g := gb215) (o := .cells #[.int .i64 0, .int .i64 0, .string (⟨#[]⟩ : ByteArray)] 31 (0, 0)) (bk BK215) hb)
    replace BK223 := bb BK223 hb
    replace HB := as_ (below_step bA hb)
    clear hb hbox hg
    refine hK.out _ _ ⟨(blk_cell BK223.out 0).trans rfl, (blk_cell BK223.out 1).trans rfl, (blk_cell BK223.out 2).trans rfl, (blk_cell BK223.out 3).trans rfl, (blk_cell BK223.out 4).trans rfl⟩ (fun hHeld => ?_)
    clear hK K
    refine norm_ (a' := ?_) ?_ ?_
    rotate_left
    ·show Act.put _ (some 7) _ = _
     simp only [Act.put, List.setIfInBounds_toArray, List.set_cons_zero, List.set_cons_succ, i64_w, i32_w]
     rfl
    refine one_ (i := 10) (N := none) #[tt, tt, tt, tt, tt, tt, tt, tt, tt, tt, tt] rfl rfl (one_of HT_.out (by kernel_rfl)) (by decide) (fun K hK => ?_)
    have hs49 : w48.cell? ⟨gb224, 0, none⟩ = some (.int .i64 0) := (blk_cell BK224.out 0).trans rfl
    have hfs49 := blk_frozen BK224.out 0
    have hns49_0 := NB215_224.out
    have hns49_1 := NB223_224.out
    have hms49_0 := NB224_215.out
    have hms49_1 := NB224_223.out
    have hs50 : w48.cell? ⟨gb224, 1, none⟩ = some (.int .i64 0) := (blk_cell BK224.out 1).trans rfl
    have hfs50 := blk_frozen BK224.out 1
    have hns50_0 := NB215_224.out
    have hns50_1 := NB223_224.out
    have hms50_0 := NB224_215.out
    have hms50_1 := NB224_223.out
    have hs51 : w48.cell? ⟨gb224, 2, none⟩ = some (.string (⟨#[]⟩ : ByteArray)) := (blk_cell BK224.out 2).trans rfl
    have hfs51 := blk_frozen BK224.out 2
    have hns51_0 := NB215_224.out
    have hns51_1 := NB223_224.out
    have hms51_0 := NB224_215.out
    have hms51_1 := NB224_223.out
    refine skip_ (w1 := ?_) (by rfl) rfl ?_ ?_
    rotate_left
    ·go_simp
     rfl
    refine hK.out _ _ ⟨((cell_far (p := ⟨gb224, _, none⟩) NB223_224.out _).trans (((cell_far (p := ⟨gb224, _, none⟩) NB223_224.out _).trans (((cell_far (p := ⟨gb224, _, none⟩) NB223_224.out _).trans (hHeld.1)))))), ((cell_far (p := ⟨gb224, _, none⟩) NB223_224.out _).trans (((cell_far (p := ⟨gb224, _, none⟩) NB223_224.out _).trans (((cell_far (p := ⟨gb224, _, none⟩) NB223_224.out _).trans (hHeld.2.1)))))), ((cell_far (p := ⟨gb224, _, none⟩) NB223_224.out _).trans (((cell_far (p := ⟨gb224, _, none⟩) NB223_224.out _).trans (((cell_far (p := ⟨gb224, _, none⟩) NB223_224.out _).trans (hHeld.2.2.1)))))), ((cell_far (p := ⟨gb224, _, none⟩) NB223_224.out _).trans (((cell_far (p := ⟨gb224, _, none⟩) NB223_224.out _).trans (((cell_far (p := ⟨gb224, _, none⟩) NB223_224.out _).trans (hHeld.2.2.2.1)))))), ((cell_far (p := ⟨gb224, _, none⟩) NB223_224.out _).trans (((cell_far (p := ⟨gb224, _, none⟩) NB223_224.out _).trans (((cell_far (p := ⟨gb224, _, none⟩) NB223_224.out _).trans (hHeld.2.2.2.2))))))⟩ (fun hHeld => ?_)
    clear hK K
    refine done_ (done_of HT_.out (by kernel_rfl)) ?_
    have hnb52 := NB224_215.out
    have hnc52 := NB215_224.out
    have hnb53 := NB224_223.out
    have hnc53 := NB223_224.out
    obtain ⟨hcz54_0, hcz54_1, hcz54_2⟩ := zc3 BK224
    obtain ⟨hfz54_0, hfz54_1, hfz54_2⟩ := zf3 BK224
    try go_wp2_with (first | ((with_reducible refine gate_callee (f := 6) rfl ?_); refine goesL_ (some 44) rfl rfl Tryz.func6 (by kernel_rfl) rfl #[.agg #[.int .i64 t220, .int .i64 t219, .string js20], .int .i64 (a0.size : Int)] rfl aO ?_; (with_reducible refine (withyref12_Encode.calls kj2 t220 t219 js20 (a0.size : Int) t225 t226 _ A21.out).mono ?_); rintro e w55 ⟨rfl, hb⟩; refine ⟨_, rfl, ?_⟩; replace BK215 := as_ (blk_below (g := gb215) (o := .cells #[.int .i64 0, .int .i64 0, .string (⟨#[]⟩ : ByteArray)] 31 (0, 0)) (by refine bx ?_; refine blk_far ?_ NB215_224.out _; refine bx ?_; refine blk_far ?_ NB215_224.out _; refine bx ?_; refine blk_far ?_ NB215_224.out _; refine bx ?_; exact BK215.out) hb); replace BK223 := as_ (blk_below (g := gb223) (o := .cells #[.int .i64 t216, .int .i64 t217, .int .i64 t218, .int .i64 t219, .int .i64 t220] 50 (0, 0)) (by refine bx ?_; refine blk_far ?_ NB223_224.out _; refine bx ?_; refine blk_far ?_ NB223_224.out _; refine bx ?_; refine blk_far ?_ NB223_224.out _; refine bx ?_; exact BK223.out) hb); replace BK224 := as_ (blk_below (g := gb224) (o := .cells #[.int .i64 t220, .int .i64 t219, .string js20] 31 (0, 0)) (by refine bx ?_; refine blk_put (cs := #[.int .i64 t220, .int .i64 t219, .string (⟨#[]⟩ : ByteArray)]) ?_ 2 _ rfl; refine bx ?_; refine blk_put (cs := #[.int .i64 t220, .int .i64 0, .string (⟨#[]⟩ : ByteArray)]) ?_ 1 _ rfl; refine bx ?_; refine blk_put (cs := #[.int .i64 0, .int .i64 0, .string (⟨#[]⟩ : ByteArray)]) ?_ 0 _ rfl; refine bx ?_; exact BK224.out) hb); replace HB := as_ (below_step bA hb); (try clear hb); (try clear hb2); (try clear hk); (try clear hi); have hnb56 := NB215_223.out; have hnc56 := NB223_215.out; obtain ⟨hcz57_0, hcz57_1, hcz57_2⟩ := zc3 BK215; obtain ⟨hfz57_0, hfz57_1, hfz57_2⟩ := zf3 BK215))
    refine bodyPost_ret (results_ct rfl _ _ gb215 31 #[.int .i64 0, .int .i64 0, .string (⟨#[]⟩ : ByteArray)] (0, 0) _ rfl (by refine bx ?_; refine blk_put (cs := #[.int .i64 0, .int .i64 0, .string (⟨#[]⟩ : ByteArray)]) ?_ 2 _ rfl; refine bx ?_; refine blk_put (cs := #[.int .i64 0, .int .i64 0, .string (⟨#[]⟩ : ByteArray)]) ?_ 1 _ rfl; refine bx ?_; refine blk_put (cs := #[.int .i64 0, .int .i64 0, .string (⟨#[]⟩ : ByteArray)]) ?_ 0 _ rfl; refine bx ?_; exact BK215.out) Tryz.underlying31 rfl (by kernel_rfl)) rfl ?_
    exact ⟨by first | rfl | (simp [errW_none, errW_some] <;> rfl) | (simp only [← hjs20]; first | rfl | (simp [errW_none, errW_some] <;> rfl)) | (simp [*, errW_none, errW_some] <;> rfl), by repeat (first | (with_reducible first | exact HB.out | apply below_alloc | apply pw_below_drewN | apply below_drew1 | refine below_set ?_ GE215.out | refine below_set ?_ GE223.out | refine below_set ?_ GE224.out) | exact HB.out)⟩
   rw [if_pos c22] at H
   have c22b0 : (t226 == 0) = true := beq_iff_eq.mpr c22
   have c22b1 : (t226 != 0) = false := bne_eq_false_iff_eq.mpr c22
   clear c22
   by_cases c23 : t225.toList = a0.toList
   rotate_left
   ·rw [if_neg c23] at H
    have c23b0 : (t225.toList == a0.toList) = false := beq_eq_false_iff_ne.mpr c23
    have c23b1 : (t225.toList != a0.toList) = true := bne_iff_ne.mpr c23
    simp only [Option.some.injEq, Prod.mk.injEq] at H
    obtain ⟨rfl, rfl, rfl, rfl⟩ := H
    try go_wp2
    replace BK215 := as_ (blk_drew BK215.out)
    replace BK223 := as_ (blk_drew BK223.out)
    replace HB := as_ (below_drew1 HB.out)
    refine start_ (n := 11) (S := fun w' => w'.cell? ⟨gb223, 0, none⟩ = some (.int .i64 t216) ∧ w'.cell? ⟨gb223, 1, none⟩ = some (.int .i64 t217) ∧ w'.cell? ⟨gb223, 2, none⟩ = some (.int .i64 t218) ∧ w'.cell? ⟨gb223, 3, none⟩ = some (.int .i64 t219) ∧ w'.cell? ⟨gb223, 4, none⟩ = some (.int .i64 t220)) (ds := []) #[ff, ff, ff, ff, ff, ff, ff, ff, ff, ff, ff] (by kernel_rfl) rfl rfl ⟨(blk_cell BK223.out 0).trans rfl, (blk_cell BK223.out 1).trans rfl, (blk_cell BK223.out 2).trans rfl, (blk_cell BK223.out 3).trans rfl, (blk_cell BK223.out 4).trans rfl⟩ (fun hHeld => ?_); refine with_tabW withyref12_Decode.tab4 withyref12_Decode.bits4 (fun HT_ HW_ => ?_)
    generalize wc.drew = w36 at BK215 BK223 HB hHeld ⊢
    refine pure_ (i := 0) (N := some 31) (v := ?_) (a' := ?_) #[tt, ff, ff, ff, ff, ff, ff, ff, ff, ff, ff] rfl rfl (any_of HT_.out (by kernel_rfl)) (fun _ _ _ h => h) (Or.inl ⟨by rfl, ?_⟩) ?_ ?_
    rotate_left
    ·intro w'
     go_simp
     with_reducible rfl
    rotate_left
    ·exact aP
    refine pure_ (i := 2) (N := some 33) (v := ?_) (a' := ?_) #[tt, ff, tt, ff, ff, ff, ff, ff, ff, ff, ff] rfl rfl (any_of HT_.out (by kernel_rfl)) (fun _ _ _ h => h) (Or.inl ⟨by rfl, ?_⟩) ?_ ?_
    rotate_left
    ·intro w'
     go_simp
     with_reducible rfl
    rotate_left
    ·exact aP
    refine pure_ (i := 4) (N := some 35) (v := ?_) (a' := ?_) #[tt, ff, tt, ff, tt, ff, ff, ff, ff, ff, ff] rfl rfl (any_of HT_.out (by kernel_rfl)) (fun _ _ _ h => h) (Or.inl ⟨by rfl, ?_⟩) ?_ ?_
    rotate_left
    ·intro w'
     go_simp
     with_reducible rfl
    rotate_left
    ·exact aP
    refine pure_ (i := 5) (N := some 36) (v := ?_) (a' := ?_) #[tt, ff, tt, ff, tt, tt, ff, ff, ff, ff, ff] rfl rfl (any_of HT_.out (by kernel_rfl)) (fun _ _ _ h => h) (Or.inl ⟨by rfl, ?_⟩) ?_ ?_
    rotate_left
    ·intro w'
     go_simp
     with_reducible rfl
    rotate_left
    ·exact aP
    refine take_ (i := 1) (N := some 32) (v := ?_) (a' := ?_) #[tt, tt, tt, ff, tt, tt, ff, ff, ff, ff, ff] rfl rfl (take_ofW HT_.out HW_.out (by kernel_rfl)) (fun _ _ _ h => h) (Or.inl ⟨by rfl, ?_⟩) hHeld ?_ ?_
    rotate_left
    ·rintro w' ⟨s0, s1, s2, s3, s4⟩
     go_simp
     with_reducible rfl
    rotate_left
    ·exact aP
    refine take_ (i := 3) (N := some 34) (v := ?_) (a' := ?_) #[tt, tt, tt, tt, tt, tt, ff, ff, ff, ff, ff] rfl rfl (take_ofW HT_.out HW_.out (by kernel_rfl)) (fun _ _ _ h => h) (Or.inl ⟨by rfl, ?_⟩) hHeld ?_ ?_
    rotate_left
    ·rintro w' ⟨s0, s1, s2, s3, s4⟩
     go_simp
     with_reducible rfl
    rotate_left
    ·exact aP
    refine take_ (i := 6) (N := some 37) (v := ?_) (a' := ?_) #[tt, tt, tt, tt, tt, tt, tt, ff, ff, ff, ff] rfl rfl (take_ofW HT_.out HW_.out (by kernel_rfl)) (fun _ _ _ h => h) (Or.inl ⟨by rfl, ?_⟩) hHeld ?_ ?_
    rotate_left
    ·rintro w' ⟨s0, s1, s2, s3, s4⟩
     go_simp
     with_reducible rfl
    rotate_left
    ·exact aP
    refine pure_ (i := 7) (N := some 38) (v := ?_) (a' := ?_) #[tt, tt, tt, tt, tt, tt, tt, tt, ff, ff, ff] rfl rfl (any_of HT_.out (by kernel_rfl)) (fun _ _ _ h => h) (Or.inl ⟨by rfl, ?_⟩) ?_ ?_
    rotate_left
    ·intro w'
     go_simp
     with_reducible rfl
    rotate_left
    ·exact aP
    refine pure_ (i := 8) (N := some 39) (v := ?_) (a' := ?_) #[tt, tt, tt, tt, tt, tt, tt, tt, tt, ff, ff] rfl rfl (any_of HT_.out (by kernel_rfl)) (fun _ _ _ h => h) (Or.inl ⟨by rfl, ?_⟩) ?_ ?_
    rotate_left
    ·intro w'
     go_simp
     with_reducible rfl
    rotate_left
    ·exact aP
    refine one_ (i := 9) (N := some 7) #[tt, tt, tt, tt, tt, tt, tt, tt, tt, tt, ff] rfl rfl (one_of HT_.out (by kernel_rfl)) (by decide) (fun K hK => ?_)
    refine box_step ?hg (N := 7) ?hd (cs := #[.int .i64 0, .int .i64 0, .string (⟨#[]⟩ : ByteArray)]) (t := 31) ?hr ?_; (case hd => rfl); (case hg => rfl); (case hr => first | (go_simp; done) | (go_simp; rfl))
    intro gb224 hg w37 hbox hb
    have BK224 := as_ (hbox)
    have GW224 := gw hg bA
    have GE224 := gw hg bA
    have NB215_224 := as_ ((by rw [hg]; exact Nat.ne_of_lt (blk_lt (g := gb215) (o := .cells #[.int .i64 0, .int .i64 0, .string (⟨#[]⟩ : ByteArray)] 31 (0, 0)) (bk BK215)) : gb215 ≠ gb224))
    have NB224_215 := as_ ((by rw [hg]; exact Nat.ne_of_gt (blk_lt (g := gb215) (o := .cells #[.int .i64 0, .int .i64 0, .string (⟨#[]⟩ : ByteArray)] 31 (0, 0)) (bk BK215)) : gb224 ≠ gb215))
    have NB223_224 := nl BK223 hg
    have NB224_223 := ng BK223 hg
    replace BK215 := as_ (blk_below (g := gb215) (o := .cells #[.int .i64 0, .int .i64 0, .string (⟨#[]⟩ : ByteArray)] 31 (0, 0)) (bk BK215) hb)
    replace BK223 := bb BK223 hb
    replace HB := as_ (below_step bA hb)
    clear hb hbox hg
    refine hK.out _ _ ⟨(blk_cell BK223.out 0).trans rfl, (blk_cell BK223.out 1).trans rfl, (blk_cell BK223.out 2).trans rfl, (blk_cell BK223.out 3).trans rfl, (blk_cell BK223.out 4).trans rfl⟩ (fun hHeld => ?_)
    clear hK K
    refine norm_ (a' := ?_) ?_ ?_
    rotate_left
    ·show Act.put _ (some 7) _ = _
     simp only [Act.put, List.setIfInBounds_toArray, List.set_cons_zero, List.set_cons_succ, i64_w, i32_w]
     rfl
    refine one_ (i := 10) (N := none) #[tt, tt, tt, tt, tt, tt, tt, tt, tt, tt, tt] rfl rfl (one_of HT_.out (by kernel_rfl)) (by decide) (fun K hK => ?_)
    have hs38 : w37.cell? ⟨gb224, 0, none⟩ = some (.int .i64 0) := (blk_cell BK224.out 0).trans rfl
    have hfs38 := blk_frozen BK224.out 0
    have hns38_0 := NB215_224.out
    have hns38_1 := NB223_224.out
    have hms38_0 := NB224_215.out
    have hms38_1 := NB224_223.out
    have hs39 : w37.cell? ⟨gb224, 1, none⟩ = some (.int .i64 0) := (blk_cell BK224.out 1).trans rfl
    have hfs39 := blk_frozen BK224.out 1
    have hns39_0 := NB215_224.out
    have hns39_1 := NB223_224.out
    have hms39_0 := NB224_215.out
    have hms39_1 := NB224_223.out
    have hs40 : w37.cell? ⟨gb224, 2, none⟩ = some (.string (⟨#[]⟩ : ByteArray)) := (blk_cell BK224.out 2).trans rfl
    have hfs40 := blk_frozen BK224.out 2
    have hns40_0 := NB215_224.out
    have hns40_1 := NB223_224.out
    have hms40_0 := NB224_215.out
    have hms40_1 := NB224_223.out
    refine skip_ (w1 := ?_) (by rfl) rfl ?_ ?_
    rotate_left
    ·go_simp
     rfl
    refine hK.out _ _ ⟨((cell_far (p := ⟨gb224, _, none⟩) NB223_224.out _).trans (((cell_far (p := ⟨gb224, _, none⟩) NB223_224.out _).trans (((cell_far (p := ⟨gb224, _, none⟩) NB223_224.out _).trans (hHeld.1)))))), ((cell_far (p := ⟨gb224, _, none⟩) NB223_224.out _).trans (((cell_far (p := ⟨gb224, _, none⟩) NB223_224.out _).trans (((cell_far (p := ⟨gb224, _, none⟩) NB223_224.out _).trans (hHeld.2.1)))))), ((cell_far (p := ⟨gb224, _, none⟩) NB223_224.out _).trans (((cell_far (p := ⟨gb224, _, none⟩) NB223_224.out _).trans (((cell_far (p := ⟨gb224, _, none⟩) NB223_224.out _).trans (hHeld.2.2.1)))))), ((cell_far (p := ⟨gb224, _, none⟩) NB223_224.out _).trans (((cell_far (p := ⟨gb224, _, none⟩) NB223_224.out _).trans (((cell_far (p := ⟨gb224, _, none⟩) NB223_224.out _).trans (hHeld.2.2.2.1)))))), ((cell_far (p := ⟨gb224, _, none⟩) NB223_224.out _).trans (((cell_far (p := ⟨gb224, _, none⟩) NB223_224.out _).trans (((cell_far (p := ⟨gb224, _, none⟩) NB223_224.out _).trans (hHeld.2.2.2.2))))))⟩ (fun hHeld => ?_)
    clear hK K
    refine done_ (done_of HT_.out (by kernel_rfl)) ?_
    have hnb41 := NB224_215.out
    have hnc41 := NB215_224.out
    have hnb42 := NB224_223.out
    have hnc42 := NB223_224.out
    obtain ⟨hcz43_0, hcz43_1, hcz43_2⟩ := zc3 BK224
    obtain ⟨hfz43_0, hfz43_1, hfz43_2⟩ := zf3 BK224
    try go_wp2_with (first | ((with_reducible refine gate_callee (f := 6) rfl ?_); refine goesL_ (some 44) rfl rfl Tryz.func6 (by kernel_rfl) rfl #[.agg #[.int .i64 t220, .int .i64 t219, .string js20], .int .i64 (a0.size : Int)] rfl aO ?_; (with_reducible refine (withyref12_Encode.calls kj2 t220 t219 js20 (a0.size : Int) t225 t226 _ A21.out).mono ?_); rintro e w44 ⟨rfl, hb⟩; refine ⟨_, rfl, ?_⟩; replace BK215 := as_ (blk_below (g := gb215) (o := .cells #[.int .i64 0, .int .i64 0, .string (⟨#[]⟩ : ByteArray)] 31 (0, 0)) (by refine bx ?_; refine blk_far ?_ NB215_224.out _; refine bx ?_; refine blk_far ?_ NB215_224.out _; refine bx ?_; refine blk_far ?_ NB215_224.out _; refine bx ?_; exact BK215.out) hb); replace BK223 := as_ (blk_below (g := gb223) (o := .cells #[.int .i64 t216, .int .i64 t217, .int .i64 t218, .int .i64 t219, .int .i64 t220] 50 (0, 0)) (by refine bx ?_; refine blk_far ?_ NB223_224.out _; refine bx ?_; refine blk_far ?_ NB223_224.out _; refine bx ?_; refine blk_far ?_ NB223_224.out _; refine bx ?_; exact BK223.out) hb); replace BK224 := as_ (blk_below (g := gb224) (o := .cells #[.int .i64 t220, .int .i64 t219, .string js20] 31 (0, 0)) (by refine bx ?_; refine blk_put (cs := #[.int .i64 t220, .int .i64 t219, .string (⟨#[]⟩ : ByteArray)]) ?_ 2 _ rfl; refine bx ?_; refine blk_put (cs := #[.int .i64 t220, .int .i64 0, .string (⟨#[]⟩ : ByteArray)]) ?_ 1 _ rfl; refine bx ?_; refine blk_put (cs := #[.int .i64 0, .int .i64 0, .string (⟨#[]⟩ : ByteArray)]) ?_ 0 _ rfl; refine bx ?_; exact BK224.out) hb); replace HB := as_ (below_step bA hb); (try clear hb); (try clear hb2); (try clear hk); (try clear hi); have hnb45 := NB215_223.out; have hnc45 := NB223_215.out; obtain ⟨hcz46_0, hcz46_1, hcz46_2⟩ := zc3 BK215; obtain ⟨hfz46_0, hfz46_1, hfz46_2⟩ := zf3 BK215))
    refine bodyPost_ret (results_ct rfl _ _ gb215 31 #[.int .i64 0, .int .i64 0, .string (⟨#[]⟩ : ByteArray)] (0, 0) _ rfl (by refine bx ?_; refine blk_put (cs := #[.int .i64 0, .int .i64 0, .string (⟨#[]⟩ : ByteArray)]) ?_ 2 _ rfl; refine bx ?_; refine blk_put (cs := #[.int .i64 0, .int .i64 0, .string (⟨#[]⟩ : ByteArray)]) ?_ 1 _ rfl; refine bx ?_; refine blk_put (cs := #[.int .i64 0, .int .i64 0, .string (⟨#[]⟩ : ByteArray)]) ?_ 0 _ rfl; refine bx ?_; exact BK215.out) Tryz.underlying31 rfl (by kernel_rfl)) rfl ?_
    exact ⟨by first | rfl | (simp [errW_none, errW_some] <;> rfl) | (simp only [← hjs20]; first | rfl | (simp [errW_none, errW_some] <;> rfl)) | (simp [*, errW_none, errW_some] <;> rfl), by repeat (first | (with_reducible first | exact HB.out | apply below_alloc | apply pw_below_drewN | apply below_drew1 | refine below_set ?_ GE215.out | refine below_set ?_ GE223.out | refine below_set ?_ GE224.out) | exact HB.out)⟩
   rw [if_pos c23] at H
   have c23b0 : (t225.toList == a0.toList) = true := beq_iff_eq.mpr c23
   have c23b1 : (t225.toList != a0.toList) = false := bne_eq_false_iff_eq.mpr c23
   clear c23
   simp only [Option.some.injEq, Prod.mk.injEq] at H
   obtain ⟨rfl, rfl, rfl, rfl⟩ := H
   try go_wp2
   replace BK215 := as_ (blk_drew BK215.out)
   replace BK223 := as_ (blk_drew BK223.out)
   replace HB := as_ (below_drew1 HB.out)
   refine start_ (n := 11) (S := fun w' => w'.cell? ⟨gb223, 0, none⟩ = some (.int .i64 t216) ∧ w'.cell? ⟨gb223, 1, none⟩ = some (.int .i64 t217) ∧ w'.cell? ⟨gb223, 2, none⟩ = some (.int .i64 t218) ∧ w'.cell? ⟨gb223, 3, none⟩ = some (.int .i64 t219) ∧ w'.cell? ⟨gb223, 4, none⟩ = some (.int .i64 t220)) (ds := []) #[ff, ff, ff, ff, ff, ff, ff, ff, ff, ff, ff] (by kernel_rfl) rfl rfl ⟨(blk_cell BK223.out 0).trans rfl, (blk_cell BK223.out 1).trans rfl, (blk_cell BK223.out 2).trans rfl, (blk_cell BK223.out 3).trans rfl, (blk_cell BK223.out 4).trans rfl⟩ (fun hHeld => ?_); refine with_tabW withyref12_Decode.tab4 withyref12_Decode.bits4 (fun HT_ HW_ => ?_)
   generalize wc.drew = w24 at BK215 BK223 HB hHeld ⊢
   refine pure_ (i := 0) (N := some 31) (v := ?_) (a' := ?_) #[tt, ff, ff, ff, ff, ff, ff, ff, ff, ff, ff] rfl rfl (any_of HT_.out (by kernel_rfl)) (fun _ _ _ h => h) (Or.inl ⟨by rfl, ?_⟩) ?_ ?_
   rotate_left
   ·intro w'
    go_simp
    with_reducible rfl
   rotate_left
   ·exact aP
   refine pure_ (i := 2) (N := some 33) (v := ?_) (a' := ?_) #[tt, ff, tt, ff, ff, ff, ff, ff, ff, ff, ff] rfl rfl (any_of HT_.out (by kernel_rfl)) (fun _ _ _ h => h) (Or.inl ⟨by rfl, ?_⟩) ?_ ?_
   rotate_left
   ·intro w'
    go_simp
    with_reducible rfl
   rotate_left
   ·exact aP
   refine pure_ (i := 4) (N := some 35) (v := ?_) (a' := ?_) #[tt, ff, tt, ff, tt, ff, ff, ff, ff, ff, ff] rfl rfl (any_of HT_.out (by kernel_rfl)) (fun _ _ _ h => h) (Or.inl ⟨by rfl, ?_⟩) ?_ ?_
   rotate_left
   ·intro w'
    go_simp
    with_reducible rfl
   rotate_left
   ·exact aP
   refine pure_ (i := 5) (N := some 36) (v := ?_) (a' := ?_) #[tt, ff, tt, ff, tt, tt, ff, ff, ff, ff, ff] rfl rfl (any_of HT_.out (by kernel_rfl)) (fun _ _ _ h => h) (Or.inl ⟨by rfl, ?_⟩) ?_ ?_
   rotate_left
   ·intro w'
    go_simp
    with_reducible rfl
   rotate_left
   ·exact aP
   refine take_ (i := 1) (N := some 32) (v := ?_) (a' := ?_) #[tt, tt, tt, ff, tt, tt, ff, ff, ff, ff, ff] rfl rfl (take_ofW HT_.out HW_.out (by kernel_rfl)) (fun _ _ _ h => h) (Or.inl ⟨by rfl, ?_⟩) hHeld ?_ ?_
   rotate_left
   ·rintro w' ⟨s0, s1, s2, s3, s4⟩
    go_simp
    with_reducible rfl
   rotate_left
   ·exact aP
   refine take_ (i := 3) (N := some 34) (v := ?_) (a' := ?_) #[tt, tt, tt, tt, tt, tt, ff, ff, ff, ff, ff] rfl rfl (take_ofW HT_.out HW_.out (by kernel_rfl)) (fun _ _ _ h => h) (Or.inl ⟨by rfl, ?_⟩) hHeld ?_ ?_
   rotate_left
   ·rintro w' ⟨s0, s1, s2, s3, s4⟩
    go_simp
    with_reducible rfl
   rotate_left
   ·exact aP
   refine take_ (i := 6) (N := some 37) (v := ?_) (a' := ?_) #[tt, tt, tt, tt, tt, tt, tt, ff, ff, ff, ff] rfl rfl (take_ofW HT_.out HW_.out (by kernel_rfl)) (fun _ _ _ h => h) (Or.inl ⟨by rfl, ?_⟩) hHeld ?_ ?_
   rotate_left
   ·rintro w' ⟨s0, s1, s2, s3, s4⟩
    go_simp
    with_reducible rfl
   rotate_left
   ·exact aP
   refine pure_ (i := 7) (N := some 38) (v := ?_) (a' := ?_) #[tt, tt, tt, tt, tt, tt, tt, tt, ff, ff, ff] rfl rfl (any_of HT_.out (by kernel_rfl)) (fun _ _ _ h => h) (Or.inl ⟨by rfl, ?_⟩) ?_ ?_
   rotate_left
   ·intro w'
    go_simp
    with_reducible rfl
   rotate_left
   ·exact aP
   refine pure_ (i := 8) (N := some 39) (v := ?_) (a' := ?_) #[tt, tt, tt, tt, tt, tt, tt, tt, tt, ff, ff] rfl rfl (any_of HT_.out (by kernel_rfl)) (fun _ _ _ h => h) (Or.inl ⟨by rfl, ?_⟩) ?_ ?_
   rotate_left
   ·intro w'
    go_simp
    with_reducible rfl
   rotate_left
   ·exact aP
   refine one_ (i := 9) (N := some 7) #[tt, tt, tt, tt, tt, tt, tt, tt, tt, tt, ff] rfl rfl (one_of HT_.out (by kernel_rfl)) (by decide) (fun K hK => ?_)
   refine box_step ?hg (N := 7) ?hd (cs := #[.int .i64 0, .int .i64 0, .string (⟨#[]⟩ : ByteArray)]) (t := 31) ?hr ?_; (case hd => rfl); (case hg => rfl); (case hr => first | (go_simp; done) | (go_simp; rfl))
   intro gb224 hg w25 hbox hb
   have BK224 := as_ (hbox)
   have GW224 := gw hg bA
   have GE224 := gw hg bA
   have NB215_224 := as_ ((by rw [hg]; exact Nat.ne_of_lt (blk_lt (g := gb215) (o := .cells #[.int .i64 0, .int .i64 0, .string (⟨#[]⟩ : ByteArray)] 31 (0, 0)) (bk BK215)) : gb215 ≠ gb224))
   have NB224_215 := as_ ((by rw [hg]; exact Nat.ne_of_gt (blk_lt (g := gb215) (o := .cells #[.int .i64 0, .int .i64 0, .string (⟨#[]⟩ : ByteArray)] 31 (0, 0)) (bk BK215)) : gb224 ≠ gb215))
   have NB223_224 := nl BK223 hg
   have NB224_223 := ng BK223 hg
   replace BK215 := as_ (blk_below (g := gb215) (o := .cells #[.int .i64 0, .int .i64 0, .string (⟨#[]⟩ : ByteArray)] 31 (0, 0)) (bk BK215) hb)
   replace BK223 := bb BK223 hb
   replace HB := as_ (below_step bA hb)
   clear hb hbox hg
   refine hK.out _ _ ⟨(blk_cell BK223.out 0).trans rfl, (blk_cell BK223.out 1).trans rfl, (blk_cell BK223.out 2).trans rfl, (blk_cell BK223.out 3).trans rfl, (blk_cell BK223.out 4).trans rfl⟩ (fun hHeld => ?_)
   clear hK K
   refine norm_ (a' := ?_) ?_ ?_
   rotate_left
   ·show Act.put _ (some 7) _ = _
    simp only [Act.put, List.setIfInBounds_toArray, List.set_cons_zero, List.set_cons_succ, i64_w, i32_w]
    rfl
   refine one_ (i := 10) (N := none) #[tt, tt, tt, tt, tt, tt, tt, tt, tt, tt, tt] rfl rfl (one_of HT_.out (by kernel_rfl)) (by decide) (fun K hK => ?_)
   have hs26 : w25.cell? ⟨gb224, 0, none⟩ = some (.int .i64 0) := (blk_cell BK224.out 0).trans rfl
   have hfs26 := blk_frozen BK224.out 0
   have hns26_0 := NB215_224.out
   have hns26_1 := NB223_224.out
   have hms26_0 := NB224_215.out
   have hms26_1 := NB224_223.out
   have hs27 : w25.cell? ⟨gb224, 1, none⟩ = some (.int .i64 0) := (blk_cell BK224.out 1).trans rfl
   have hfs27 := blk_frozen BK224.out 1
   have hns27_0 := NB215_224.out
   have hns27_1 := NB223_224.out
   have hms27_0 := NB224_215.out
   have hms27_1 := NB224_223.out
   have hs28 : w25.cell? ⟨gb224, 2, none⟩ = some (.string (⟨#[]⟩ : ByteArray)) := (blk_cell BK224.out 2).trans rfl
   have hfs28 := blk_frozen BK224.out 2
   have hns28_0 := NB215_224.out
   have hns28_1 := NB223_224.out
   have hms28_0 := NB224_215.out
   have hms28_1 := NB224_223.out
   refine skip_ (w1 := ?_) (by rfl) rfl ?_ ?_
   rotate_left
   ·go_simp
    rfl
   refine hK.out _ _ ⟨((cell_far (p := ⟨gb224, _, none⟩) NB223_224.out _).trans (((cell_far (p := ⟨gb224, _, none⟩) NB223_224.out _).trans (((cell_far (p := ⟨gb224, _, none⟩) NB223_224.out _).trans (hHeld.1)))))), ((cell_far (p := ⟨gb224, _, none⟩) NB223_224.out _).trans (((cell_far (p := ⟨gb224, _, none⟩) NB223_224.out _).trans (((cell_far (p := ⟨gb224, _, none⟩) NB223_224.out _).trans (hHeld.2.1)))))), ((cell_far (p := ⟨gb224, _, none⟩) NB223_224.out _).trans (((cell_far (p := ⟨gb224, _, none⟩) NB223_224.out _).trans (((cell_far (p := ⟨gb224, _, none⟩) NB223_224.out _).trans (hHeld.2.2.1)))))), ((cell_far (p := ⟨gb224, _, none⟩) NB223_224.out _).trans (((cell_far (p := ⟨gb224, _, none⟩) NB223_224.out _).trans (((cell_far (p := ⟨gb224, _, none⟩) NB223_224.out _).trans (hHeld.2.2.2.1)))))), ((cell_far (p := ⟨gb224, _, none⟩) NB223_224.out _).trans (((cell_far (p := ⟨gb224, _, none⟩) NB223_224.out _).trans (((cell_far (p := ⟨gb224, _, none⟩) NB223_224.out _).trans (hHeld.2.2.2.2))))))⟩ (fun hHeld => ?_)
   clear hK K
   refine done_ (done_of HT_.out (by kernel_rfl)) ?_
   have hnb29 := NB224_215.out
   have hnc29 := NB215_224.out
   have hnb30 := NB224_223.out
   have hnc30 := NB223_224.out
   obtain ⟨hcz31_0, hcz31_1, hcz31_2⟩ := zc3 BK224
   obtain ⟨hfz31_0, hfz31_1, hfz31_2⟩ := zf3 BK224
   try go_wp2_with (first | ((with_reducible refine gate_callee (f := 6) rfl ?_); refine goesL_ (some 44) rfl rfl Tryz.func6 (by kernel_rfl) rfl #[.agg #[.int .i64 t220, .int .i64 t219, .string js20], .int .i64 (a0.size : Int)] rfl aO ?_; (with_reducible refine (withyref12_Encode.calls kj2 t220 t219 js20 (a0.size : Int) t225 t226 _ A21.out).mono ?_); rintro e w32 ⟨rfl, hb⟩; refine ⟨_, rfl, ?_⟩; replace BK215 := as_ (blk_below (g := gb215) (o := .cells #[.int .i64 0, .int .i64 0, .string (⟨#[]⟩ : ByteArray)] 31 (0, 0)) (by refine bx ?_; refine blk_far ?_ NB215_224.out _; refine bx ?_; refine blk_far ?_ NB215_224.out _; refine bx ?_; refine blk_far ?_ NB215_224.out _; refine bx ?_; exact BK215.out) hb); replace BK223 := as_ (blk_below (g := gb223) (o := .cells #[.int .i64 t216, .int .i64 t217, .int .i64 t218, .int .i64 t219, .int .i64 t220] 50 (0, 0)) (by refine bx ?_; refine blk_far ?_ NB223_224.out _; refine bx ?_; refine blk_far ?_ NB223_224.out _; refine bx ?_; refine blk_far ?_ NB223_224.out _; refine bx ?_; exact BK223.out) hb); replace BK224 := as_ (blk_below (g := gb224) (o := .cells #[.int .i64 t220, .int .i64 t219, .string js20] 31 (0, 0)) (by refine bx ?_; refine blk_put (cs := #[.int .i64 t220, .int .i64 t219, .string (⟨#[]⟩ : ByteArray)]) ?_ 2 _ rfl; refine bx ?_; refine blk_put (cs := #[.int .i64 t220, .int .i64 0, .string (⟨#[]⟩ : ByteArray)]) ?_ 1 _ rfl; refine bx ?_; refine blk_put (cs := #[.int .i64 0, .int .i64 0, .string (⟨#[]⟩ : ByteArray)]) ?_ 0 _ rfl; refine bx ?_; exact BK224.out) hb); replace HB := as_ (below_step bA hb); (try clear hb); (try clear hb2); (try clear hk); (try clear hi); obtain ⟨hcz33_0, hcz33_1, hcz33_2⟩ := zc3 BK224; obtain ⟨hfz33_0, hfz33_1, hfz33_2⟩ := zf3 BK224; have hnb34 := NB215_223.out; have hnc34 := NB223_215.out; obtain ⟨hcz35_0, hcz35_1, hcz35_2⟩ := zc3 BK215; obtain ⟨hfz35_0, hfz35_1, hfz35_2⟩ := zf3 BK215))
   refine bodyPost_ret (results_ct rfl _ _ gb215 31 #[.int .i64 t220, .int .i64 t219, .string js20] (0, 0) _ rfl (by refine bx ?_; refine blk_put (cs := #[.int .i64 t220, .int .i64 t219, .string (⟨#[]⟩ : ByteArray)]) ?_ 2 _ rfl; refine bx ?_; refine blk_put (cs := #[.int .i64 t220, .int .i64 0, .string (⟨#[]⟩ : ByteArray)]) ?_ 1 _ rfl; refine bx ?_; refine blk_put (cs := #[.int .i64 0, .int .i64 0, .string (⟨#[]⟩ : ByteArray)]) ?_ 0 _ rfl; refine bx ?_; exact BK215.out) Tryz.underlying31 rfl (by kernel_rfl)) rfl ?_
   exact ⟨by first | rfl | (simp [errW_none, errW_some] <;> rfl) | (simp only [← hjs20]; first | rfl | (simp [errW_none, errW_some] <;> rfl)) | (simp [*, errW_none, errW_some] <;> rfl), by repeat (first | (with_reducible first | exact HB.out | apply below_alloc | apply pw_below_drewN | apply below_drew1 | refine below_set ?_ GE215.out | refine below_set ?_ GE223.out | refine below_set ?_ GE224.out) | exact HB.out)⟩
-- NOT PRINTED: function 27 (chain_cuts)

/-! ### chain_Parts: function 15, by hand -/
section
open Go.Shelf Go.Proofs.YtggfnlnonigkiaaGreatDoorRange
attribute [local go_sem] Oper.semAt_some
/-- How many bytes are cut from the front. -/
def chain_Parts.cut (room : Int) (x : ByteArray) : Nat := min room.toNat x.size
def chain_Parts.l0 : Nat → ByteArray → Int → List ByteArray → Option (List ByteArray)
 | 0, _, _, _ => none
 | k + 1, x, room, acc => if x.toList = ([] : List UInt8) then some acc else (if 1 ≤ room then (if acc.length < 8796093022208 then chain_Parts.l0 k (x.extract (chain_Parts.cut room x) x.size) room (acc ++ [x.extract 0 (chain_Parts.cut room x)]) else none) else none)
def chain_Parts.f (k : Nat) (a0 : ByteArray) (a1 : Int) : Option (List ByteArray) := chain_Parts.l0 k a0 (wrap64 (a1 - 16)) []
theorem chain_Parts.mono_l : ∀ k y0 y1 y2, LeO (chain_Parts.l0 k y0 y1 y2) (chain_Parts.l0 (k + 1) y0 y1 y2)
 | 0 => fun _ _ _ r h => by simp [chain_Parts.l0] at h
 | k + 1 => by
  intro y0 y1 y2
  unfold chain_Parts.l0
  exact LeO.ite (LeO.refl _) (LeO.ite (LeO.ite (chain_Parts.mono_l k _ _ _) (LeO.none _)) (LeO.none _))
theorem chain_Parts.mono : ∀ a0 a1 k, LeO (chain_Parts.f k a0 a1) (chain_Parts.f (k + 1) a0 a1) := fun a0 a1 k => chain_Parts.mono_l k _ _ _
/-- What lies in memory between two rounds: the boxes of the list made, of the text left, of the room; the two blocks of the loop. -/
structure PartsAt (w : World) (rec : LoopRec) (p : Int) (wr : World) (x : ByteArray) (v : Value) (acc : List ByteArray) : Prop where
 out : wr.heap[w.heap.size]? = some (.cells #[v] 42 (0, 0))
 own : wr.ownsRow (w.heap.size + 5) 9 1 v acc.length (acc.map Value.string)
 vb : wr.heap[w.heap.size + 1]? = some (.cells #[.string x] 9 (0, 0))
 rb : wr.heap[w.heap.size + 2]? = some (.cells #[.int .i64 p] 3 (0, 0))
 dd : wr.heap[w.heap.size + 3]? = some (.deferred (some []))
 lp : wr.heap[w.heap.size + 4]? = some (.loop (rec .ready none))
 below : Below w.heap.size w wr
theorem parts_putObj {w W : World} {l : Nat} (o : Obj) (h : Below w.heap.size w W) (hl : w.heap.size ≤ l) : Below w.heap.size w (W.putObj l o) :=
 ⟨h.os, h.tape, h.output, by have := h.size; simpa using this, fun k hk => (World.putObj_heap_other (by omega)).trans (h.block k hk)⟩
theorem own_base5 {W : World} {b e s n : Nat} {v : Value} {xs : List Value} (h : W.ownsRow b e s v n xs) (k : Nat) (hk : k < b) : some k ≠ v.ownBlock := by
 rcases h.2 with ⟨rfl, _⟩ | ⟨g, cap, cur, rfl, hg, _⟩
 ·simp [Value.ownBlock]
 ·intro e'
  obtain rfl : k = g := by simpa [Value.ownBlock] using e'
  omega
def boxSize (B : Nat) (wr : World) : Nat := match wr.cell? ⟨B, 0, none⟩ with | some (.string s) => s.size | _ => 0
theorem PartsAt.boxSize {w : World} {rec : LoopRec} {p : Int} {wr : World} {x : ByteArray} {v : Value} {acc : List ByteArray} (h : PartsAt w rec p wr x v acc) : boxSize (w.heap.size + 1) wr = x.size := by
 have := blk_cell h.vb 0
 simp at this
 simp [P.boxSize, this]
theorem chain_cuts.calls (a0 : ByteArray) (a1 : Int) (w : World) :
  Calls Tryz.prog 27 #[.string a0, .int .i64 a1] w fun e w' => e = .returned (.func (.func 47) #[] #[.pointer (some ⟨w.heap.size, 0, none⟩), .pointer (some ⟨w.heap.size + 1, 0, none⟩)]) ∧ w' = (w.alloc (.cells #[.string a0] 9)).alloc (.cells #[.int .i64 a1] 3) := by
 go_enter Tryz.func27, Tryz.ntmps27
 go_wp2
 go_ret
 exact ⟨rfl, rfl⟩
theorem Parts_info : (Tryz.prog.info? 9).map (fun i => (i.zero, i.size, i.bytes)) = some (some (.string ⟨#[]⟩), 1, 16) := by kernel_rfl
set_option maxHeartbeats 4000000 in
set_option maxRecDepth 100000 in
theorem chain_Parts.calls (k : Nat) (a0 : ByteArray) (a1 : Int) (r : List ByteArray) (w : World) (h : chain_Parts.f k a0 a1 = some r) :
  Calls Tryz.prog 15 #[.string a0, .int .i64 a1] w fun e w' => ∃ v0_ : Value, e = .returned (v0_) ∧ Kd.R Kd.string 9 w' w.heap.size (fun _ => True) v0_ r ∧ Below w.heap.size w w' := by
 unfold chain_Parts.f at h
 obtain ⟨rm, hrm⟩ : ∃ rm, rm = wrap64 (a1 - 16) := ⟨_, rfl⟩
 rw [← hrm] at h
 refine (callsIn_wide (n := 9)).1 ?_
 refine callsIn_of_wp_marks Tryz.func15 rfl trivial ?_ rfl
 simp only [Tryz.ntmps15, List.size_toArray, List.length_cons, List.length_nil, Nat.reduceAdd, Nat.reduceSub, Array.replicate_succ, Array.replicate_zero, List.push_toArray, List.append_toArray, List.nil_append, List.cons_append]
 have hrm' := Aside0.mk hrm
 clear hrm
 gi_wp2_with (refine ⟨trivial, ?_⟩; gi_at_call 27; (try rw [← hrm'.out]); refine (callsIn_wide.2 (chain_cuts.calls a0 rm _)).mono ?_; rintro e w' ⟨rfl, rfl⟩)
 obtain ⟨W0, hW0⟩ : ∃ W0, ((w.alloc (.cells #[.slice none 0 0] 42)).alloc (.cells #[.string a0] 9)).alloc (.cells #[.int .i64 rm] 3) = W0 := ⟨_, rfl⟩
 have hz : W0.heap.size = w.heap.size + 3 := by rw [← hW0]; simp
 have b0 : W0.heap[w.heap.size]? = some (.cells #[.slice none 0 0] 42 (0, 0)) := by rw [← hW0]; exact blk_alloc (blk_alloc (blk_new w _) _) _
 have b1 : W0.heap[w.heap.size + 1]? = some (.cells #[.string a0] 9 (0, 0)) := by
  rw [← hW0]; have := blk_new (w.alloc (.cells #[.slice none 0 0] 42)) (.cells #[.string a0] 9); rw [World.size_alloc] at this; exact blk_alloc this _
 have b2 : W0.heap[w.heap.size + 2]? = some (.cells #[.int .i64 rm] 3 (0, 0)) := by
  rw [← hW0]; have := blk_new ((w.alloc (.cells #[.slice none 0 0] 42)).alloc (.cells #[.string a0] 9)) (.cells #[.int .i64 rm] 3); rw [World.size_alloc, World.size_alloc] at this; exact this
 have bel0 : Below w.heap.size w W0 := by rw [← hW0]; exact below_alloc (below_alloc (below_alloc (Below.refl _ _) _) _) _
 (try simp only [World.size_alloc])
 rw [hW0]
 clear hW0
 refine rangeFunc_walk (gf := 47) (lb := #[.pointer (some ⟨w.heap.size + 1, 0, none⟩), .pointer (some ⟨w.heap.size + 2, 0, none⟩)]) rfl (by decide) rfl trivial (enters_of Tryz.func47 (by kernel_rfl) rfl) ?_
 intro rec hY
 rw [hz] at hY ⊢
 have hG0 : PartsAt w rec rm ((W0.alloc (.deferred (some []))).alloc (.loop (rec .ready none))) a0 (.slice none 0 0) [] := by
  have n1 := blk_new W0 (.deferred (some []))
  have n2 := blk_new (W0.alloc (.deferred (some []))) (.loop (rec .ready none))
  rw [World.size_alloc, hz] at n2
  rw [hz] at n1
  exact ⟨blk_alloc (blk_alloc b0 _) _, World.ownsRow_nil _ _ _ _, blk_alloc (blk_alloc b1 _) _, blk_alloc (blk_alloc b2 _) _, blk_alloc n1 _, n2, below_alloc (below_alloc bel0 _) _⟩
 clear b0 b1 b2 bel0
 generalize (W0.alloc (.deferred (some []))).alloc (.loop (rec .ready none)) = W1 at hG0 ⊢
 have hYield : ∀ (wr : World) (x : ByteArray) (v : Value) (acc : List ByteArray) (s : ByteArray), PartsAt w rec rm wr x v acc → acc.length < 8796093022208 →
   YieldAt Fence.wide 7 Tryz.prog (w.heap.size + 4) #[.string s] wr fun e W' => e = .returned (.bool true) ∧ ∃ v', PartsAt w rec rm W' x v' (acc ++ [s]) := by
  intro wr x v acc s hG hlen
  refine hY wr _ _ rfl hG.lp ?_
  obtain ⟨i0, hi, hz0, hz1, hz2⟩ := info_parts Parts_info
  simp only [List.zip_toArray, List.zip_cons_cons, List.zip_nil_right, List.zip_nil_left, List.foldl_toArray', List.foldl_cons, List.foldl_nil, List.setIfInBounds_toArray, List.set_cons_zero, List.set_cons_succ, List.size_toArray, List.length_cons, List.length_nil, Nat.reduceAdd]
  gi_wp2
  refine ⟨hG.lp, ?_⟩
  obtain ⟨W2, hW2⟩ : ∃ W2, wr.putObj (w.heap.size + 3 + 1) (.loop (rec .busy none)) = W2 := ⟨_, rfl⟩
  have o2 : ∀ k, k ≠ w.heap.size + 4 → W2.heap[k]? = wr.heap[k]? := fun k hk => by rw [← hW2]; exact World.putObj_heap_other (by omega)
  have l2 : W2.heap[w.heap.size + 4]? = some (.loop (rec .busy none)) := by rw [← hW2]; exact World.putObj_heap_same (blk_lt hG.lp)
  have row2 : W2.ownsRow (w.heap.size + 5) 9 1 v acc.length (acc.map Value.string) := by rw [← hW2]; exact ownsRow_putObj hG.own _ hG.lp rfl
  have box2 : Boxed W2 w.heap.size 42 v := (o2 _ (by omega)).trans hG.out
  have bel2 : Below w.heap.size w W2 := by rw [← hW2]; exact parts_putObj _ hG.below (by omega)
  have sz2 : w.heap.size + 5 ≤ W2.heap.size := by have := blk_lt l2; omega
  rw [hW2]
  have hc := box2.cell
  gi_wp2_with (gi_at_builtin; refine wpListIn_append_own _ rfl _ _ 42 rfl (w.heap.size + 5) 9 i0 (.string ⟨#[]⟩) 1 16 Tryz.underlying42 hi hz0 hz1 hz2 rfl (by decide) _ _ _ rfl (row2.alloc _) ⟨W2.heap.size, 0, none⟩ 1 1 [.string s] rfl rfl (cell_one_new _ _ _) (by simp [Value.oneCell']) (by show acc.length + 1 ≤ 9223372036854775807; omega) (by omega) (by simp; omega) ?_; intro v' w1 hown' hgrow _; obtain ⟨g', cap', rfl⟩ := ownsRow_succ hown'; obtain ⟨hv1, hv2, hr2, hk2, hb2⟩ := box2.appended (by decide) (own_less row2 (by omega : w.heap.size ≤ w.heap.size + 5)) (by omega) (Nat.le_refl _) (own_less hown' (by omega : w.heap.size ≤ w.heap.size + 5)) hgrow; have hr5 := hown'.kept (grownBy_setCell' w1 w.heap.size (.slice (some ⟨g', 0, none⟩) (acc.length + 1) cap')) (.inr (hv1.not_row (by decide) hown').symm); have hc1 := hv1.cell; have hf1 := hv1.frozen)
  have e3 := hk2.same _ _ l2 rfl
  have lt3 := blk_lt e3
  have o3 : ∀ k, k < w.heap.size + 4 → k ≠ w.heap.size → (w1.setCell ⟨w.heap.size, 0, none⟩ (.slice (some ⟨g', 0, none⟩) (acc.length + 1) cap')).heap[k]? = wr.heap[k]? := fun k h1 h2 => by
   refine ((Below.heap_setCell _ _ _ k (by intro e; exact h2 e)).trans (hgrow.block k (by simp; omega) (own_base5 row2 k (by omega)))).trans ?_
   exact (Below.heap_alloc W2 (.cells #[.string s] 9) k (by omega)).trans (o2 k (by omega))
  refine ⟨e3, rfl, .slice (some ⟨g', 0, none⟩) (acc.length + 1) cap', ?_⟩
  have q4 : ∀ k, k ≠ w.heap.size + 4 → ((w1.setCell ⟨w.heap.size, 0, none⟩ (.slice (some ⟨g', 0, none⟩) (acc.length + 1) cap')).putObj (w.heap.size + 3 + 1) (.loop (rec .ready none))).heap[k]? = (w1.setCell ⟨w.heap.size, 0, none⟩ (.slice (some ⟨g', 0, none⟩) (acc.length + 1) cap')).heap[k]? := fun k hk => World.putObj_heap_other (by omega)
  refine ⟨(q4 _ (by omega)).trans hv2, ?_, (q4 _ (by omega)).trans ((o3 _ (by omega) (by omega)).trans hG.vb), (q4 _ (by omega)).trans ((o3 _ (by omega) (by omega)).trans hG.rb), (q4 _ (by omega)).trans ((o3 _ (by omega) (by omega)).trans hG.dd), World.putObj_heap_same lt3, parts_putObj _ (bel2.trans hb2) (by omega)⟩
  have hr6 := ownsRow_putObj hr5 (.loop (rec .ready none)) e3 rfl
  simpa using hr6
 -- WALK
 refine callsIn_of_wp Tryz.func47 rfl trivial ?_ rfl
 simp only [Tryz.ntmps47, List.size_toArray, List.length_cons, List.length_nil, Nat.reduceAdd, Nat.reduceSub, Array.replicate_succ, Array.replicate_zero, List.push_toArray, List.append_toArray, List.nil_append, List.cons_append]
 gi_wp2
 gi_loopw [4] (fun v wr => ∃ (kq : Nat) (x : ByteArray) (acc : List ByteArray) (vo : Value), PartsAt w rec rm wr x vo acc ∧ chain_Parts.l0 kq x rm acc = some r) (fun _ wr => boxSize (w.heap.size + 1) wr)
 case atStart => exact ⟨k, a0, [], _, hG0, h⟩
 case round =>
  clear hG0 h
  obtain ⟨kq, x, acc, vo, hG, hl0⟩ := hrel
  cases kq with
  | zero => simp [chain_Parts.l0] at hl0
  | succ kq =>
   simp only [chain_Parts.l0] at hl0
   have hm0 := hG.boxSize
   have hc1 : wr.cell? ⟨w.heap.size + 1, 0, none⟩ = some (.string x) := blk_cell hG.vb 0
   have hc2 : wr.cell? ⟨w.heap.size + 2, 0, none⟩ = some (.int .i64 rm) := blk_cell hG.rb 0
   by_cases d0 : x.toList = ([] : List UInt8)
   ·rw [if_pos d0] at hl0
    obtain rfl := Option.some.inj hl0
    have d0b : (x.toList != ([] : List UInt8)) = false := bne_eq_false_iff_eq.mpr d0
    gi_wp2
    refine bodyPost_end (results_none rfl _ _ _) rfl ?_
    refine ⟨⟨_, rfl⟩, .inl ⟨hG.lp, ?_⟩⟩
    have o4 : ∀ k, k ≠ w.heap.size + 4 → (wr.putObj (w.heap.size + 3 + 1) (.loop (rec .exhausted none))).heap[k]? = wr.heap[k]? := fun k hk => World.putObj_heap_other (by omega)
    have out4 := (o4 _ (by omega)).trans hG.out
    have dd4 := (o4 _ (by omega)).trans hG.dd
    have row4 := ownsRow_putObj hG.own (.loop (rec .exhausted none)) hG.lp rfl
    have bel4 := parts_putObj (l := w.heap.size + 3 + 1) (.loop (rec .exhausted none)) hG.below (by omega)
    generalize wr.putObj (w.heap.size + 3 + 1) (.loop (rec .exhausted none)) = W4 at out4 dd4 row4 bel4 ⊢
    have hc6 : W4.cell? ⟨w.heap.size, 0, none⟩ = some vo := blk_cell out4 0
    clear hG hc1 hc2 o4 hm0
    gi_wp2
    refine ⟨by simp, .inl ⟨_, _, rfl, run_takeDeferred dd4, ?_⟩⟩
    have row5 := ownsRow_putObj row4 (.deferred none) dd4 rfl
    have bel5 := parts_putObj (l := w.heap.size + 3) (.deferred none) bel4 (by omega)
    refine ⟨_, results_tmp rfl _ _ _, vo, rfl, ?_, bel5⟩
    exact Kd.R_of_own (h1 := fun _ => rfl) (own_less (base := w.heap.size) (by simpa [encs] using row5) (by omega)) (fun _ _ => trivial)
   rw [if_neg d0] at hl0
   have d0b : (x.toList != ([] : List UInt8)) = true := bne_iff_ne.mpr d0
   have d0c : x.toList.isEmpty = false := List.isEmpty_eq_false_iff.mpr d0
   by_cases d1 : 1 ≤ rm
   rotate_left
   ·rw [if_neg d1] at hl0; cases hl0
   rw [if_pos d1] at hl0
   by_cases d2 : acc.length < 8796093022208
   rotate_left
   ·rw [if_neg d2] at hl0; cases hl0
   rw [if_pos d2] at hl0
   obtain ⟨n, hn⟩ : ∃ n, n = chain_Parts.cut rm x := ⟨_, rfl⟩
   rw [← hn] at hl0
   have hn1 : (n : Int) = min rm (x.size : Int) := by rw [hn]; unfold chain_Parts.cut; omega
   have hn2 : n ≤ x.size := by omega
   have hn3 : 0 < x.size := by
    rcases Nat.eq_zero_or_pos x.size with h0 | h0
    rotate_left
    ·exact h0
    refine absurd ?_ d0
    rw [ByteArray.toList_eq]
    exact List.eq_nil_of_length_eq_zero (by rw [data_length]; exact h0)
   have hn4 : 1 ≤ n := by omega
   clear hn
   by_cases hle : rm ≤ (x.size : Int)
   ·obtain rfl : rm = (n : Int) := by omega
    have hle2 : decide ((n : Int) ≤ (x.size : Int)) = true := decide_eq_true hle
    have hlt : ((x.size : Int) < (n : Int)) = False := eq_false (by omega)
    have hlt2 : (x.size < n) = False := eq_false (by omega)
    have hle3 : (n ≤ x.size) = True := eq_true hn2
    have HN := as_ (⟨hn1, hn4, hle⟩ : (n : Int) = min (n : Int) (x.size : Int) ∧ 1 ≤ n ∧ (n : Int) ≤ (x.size : Int))
    clear hn1
    obtain ⟨fn_, tm_, as_, bd_, hy, hR⟩ := hYield _ x vo acc (x.extract 0 n) hG d2
    gi_wp2
    refine hR.mono ?_
    rintro e W3 ⟨rfl, v3, hG3⟩
    have hc5 : W3.cell? ⟨w.heap.size + 1, 0, none⟩ = some (.string x) := blk_cell hG3.vb 0
    have hf5 := blk_frozen hG3.vb 0
    clear hy hR hc1 hc2 hY hYield
    gi_wp2
    refine ⟨⟨kq, x.extract n x.size, _, v3, ⟨(Below.heap_setCell _ _ _ _ (by simp)).trans hG3.out, hG3.own.kept (grownBy_setCell' W3 _ _) (.inr (own_base5 hG3.own _ (by omega)).symm), Boxed.set (t := 9) _ hG3.vb, (Below.heap_setCell _ _ _ _ (by simp)).trans hG3.rb, (Below.heap_setCell _ _ _ _ (by simp)).trans hG3.dd, (Below.heap_setCell _ _ _ _ (by simp)).trans hG3.lp, hG3.below.setCell (by simp) _⟩, hl0⟩, ?_⟩
    rw [hm0]
    have hbx := Boxed.set (t := 9) (.string (x.extract n x.size)) hG3.vb
    have hbs : boxSize (w.heap.size + 1) (W3.setCell ⟨w.heap.size + 1, 0, none⟩ (.string (x.extract n x.size))) = (x.extract n x.size).size := by
     have := blk_cell hbx 0
     simp at this
     simp [P.boxSize, this]
    rw [hbs, ByteArray.size_extract]
    have := HN.out
    omega
   obtain rfl : n = x.size := by omega
   have hle2 : decide (rm ≤ (x.size : Int)) = false := decide_eq_false hle
   have hle3 : (rm ≤ (x.size : Int)) = False := eq_false hle
   have hlt : ((x.size : Int) < rm) = True := eq_true (by omega)
   have hlt2 : decide ((x.size : Int) < rm) = true := decide_eq_true (by omega)
   have HN := as_ (⟨hn1, hn3⟩ : (x.size : Int) = min rm (x.size : Int) ∧ 0 < x.size)
   have e0 : x.extract 0 x.size = x := by simp
   have e1 : x.extract x.size x.size = ByteArray.empty := by simp
   rw [e0, e1] at hl0
   clear hn1 hn2 hn4
   obtain ⟨fn_, tm_, as_, bd_, hy, hR⟩ := hYield _ x vo acc x hG d2
   gi_wp2
   refine hR.mono ?_
   rintro e W3 ⟨rfl, v3, hG3⟩
   have hc5 : W3.cell? ⟨w.heap.size + 1, 0, none⟩ = some (.string x) := blk_cell hG3.vb 0
   have hf5 := blk_frozen hG3.vb 0
   clear hy hR hc1 hc2 hY hYield
   gi_wp2
   refine ⟨⟨kq, ByteArray.empty, _, v3, ⟨(Below.heap_setCell _ _ _ _ (by simp)).trans hG3.out, hG3.own.kept (grownBy_setCell' W3 _ _) (.inr (own_base5 hG3.own _ (by omega)).symm), Boxed.set (t := 9) _ hG3.vb, (Below.heap_setCell _ _ _ _ (by simp)).trans hG3.rb, (Below.heap_setCell _ _ _ _ (by simp)).trans hG3.dd, (Below.heap_setCell _ _ _ _ (by simp)).trans hG3.lp, hG3.below.setCell (by simp) _⟩, hl0⟩, ?_⟩
   rw [hm0]
   have hbx := Boxed.set (t := 9) (.string (ByteArray.empty)) hG3.vb
   have hbs : boxSize (w.heap.size + 1) (W3.setCell ⟨w.heap.size + 1, 0, none⟩ (.string (ByteArray.empty))) = (ByteArray.empty).size := by
    have := blk_cell hbx 0
    simp at this
    simp [P.boxSize, this]
   rw [hbs]
   show 0 < x.size
   have := HN.out
   omega
end


/-! ### chain_Pages: function 17 -/
def chain_Pages.f (a0 : Int) (a1 : Int) : Option (Int) := if (wrap64 (a1 - 16)) = 0 then (none) else (some (wrap64 ((wrap64 ((mx a0 0) / (wrap64 (a1 - 16)))) + (mn ((mx a0 0) % (wrap64 (a1 - 16))) 1))))
set_option maxHeartbeats 8000000 in
set_option maxRecDepth 100000 in
theorem chain_Pages.calls (a0 : Int) (a1 : Int) (r : Int) (w : World) (h : chain_Pages.f a0 a1 = some r) :
  Calls Tryz.prog 17 #[.int .i64 a0, .int .i64 a1] w fun e w' => e = .returned (.int .i64 r) ∧ Below w.heap.size w w' := by
 have HB := as_ (Below.refl w.heap.size w)
 have H : (if (wrap64 (a1 - 16)) = 0 then (none) else (some (wrap64 ((wrap64 ((mx a0 0) / (wrap64 (a1 - 16)))) + (mn ((mx a0 0) % (wrap64 (a1 - 16))) 1))))) = some r := h
 clear h
 obtain ⟨ji3, hji3⟩ : ∃ j_ : Int, (mx a0 0) = j_ := ⟨_, rfl⟩
 replace H : (if (wrap64 (a1 - 16)) = 0 then (none) else (some (wrap64 ((wrap64 ((ji3) / (wrap64 (a1 - 16)))) + (mn ((ji3) % (wrap64 (a1 - 16))) 1))))) = some r := by first | (rw [hji3] at H; exact H) | (simp only [hji3] at H ⊢; exact H)
 (try (have hji3l : 0 ≤ ji3 := by (rw [← hji3]; unfold mx; (repeat' split) <;> omega)))
 (try (have hji3m : 0 ≤ ji3 := by omega))
 have hji3_ : (if a0 < 0 then 0 else a0) = ji3 := hji3
 by_cases c4 : (wrap64 (a1 - 16)) = 0
 ·rw [if_pos c4] at H
  exact absurd H (by simp)
 rw [if_neg c4] at H
 have c4b0 : ((wrap64 (a1 - 16)) == 0) = false := beq_eq_false_iff_ne.mpr c4
 have c4b1 : ((wrap64 (a1 - 16)) != 0) = true := bne_iff_ne.mpr c4
 obtain ⟨ji5, hji5⟩ : ∃ j_ : Int, (mn ((ji3) % (wrap64 (a1 - 16))) 1) = j_ := ⟨_, rfl⟩
 replace H : (some (wrap64 ((wrap64 ((ji3) / (wrap64 (a1 - 16)))) + (ji5)))) = some r := by first | (rw [hji5] at H; exact H) | (simp only [hji5] at H ⊢; exact H)
 have hji5_ : (if 1 < ((ji3) % (wrap64 (a1 - 16))) then 1 else ((ji3) % (wrap64 (a1 - 16)))) = ji5 := hji5
 obtain rfl := Option.some.inj H
 go_enter Tryz.func17, Tryz.ntmps17
 go_wp2
 repeat (go_quiet (fail); try go_wp2)
 go_ret
 exact ⟨by first | (rw [Int.tdiv_eq_ediv_of_nonneg (by assumption)]; rfl) | rfl | (simp [errW_none, errW_some] <;> rfl) | (simp only [← hji3, ← hji5]; first | rfl | (simp [errW_none, errW_some] <;> rfl)) | (simp [*, errW_none, errW_some] <;> rfl), by repeat (first | (with_reducible first | exact HB.out | apply below_alloc | apply pw_below_drewN | apply below_drew1) | exact HB.out)⟩

end Go.Proofs.YtggfnlnonigkiaaGreatDoor.P
