/- What is proved here: for functions of the Go text, a Lean function each, and that the call comes to just what it answers. Conditions: as each contract names them. Written by wip/tools/myprint.py, a driver of the print of the kit. -/
import Derived.Test.YtjfgeppfkhaliaaDoorP0
import Derived.Test.YtjfgeppfkhaliaaDoorP1
import Derived.Test.YtjfgeppfkhaliaaDoorWAbbr
namespace Go.Proofs.YtjfgeppfkhaliaaDoor.P
open Go.RowKit Go.Proofs.YtjfgeppfkhaliaaDoorW.PrintWords Go.Proofs.YtjfgeppfkhaliaaDoorW.PrintLast Go.Proofs.YtjfgeppfkhaliaaDoorW.PrintMore Go.Proofs.YtjfgeppfkhaliaaDoorW.Abbr
-- PACKED
attribute [local go_sem] max2_int min2_int max_two min_two max_three min_three max_four min_four Go.Proofs.YtjfgeppfkhaliaaDoorLaws.str_leq Go.Proofs.YtjfgeppfkhaliaaDoorLaws.str_gtr Go.Proofs.YtjfgeppfkhaliaaDoorLaws.str_geq Go.Proofs.YtjfgeppfkhaliaaDoorLaws.max2_str Go.Proofs.YtjfgeppfkhaliaaDoorLaws.min2_str   -- for this text's walks alone
set_option linter.unusedVariables false
set_option linter.unusedSimpArgs false

attribute [local go_sem high] eqA24
/-! ### withylaw03_Cut: function 9 -/
def withylaw03_Cut.f (a0_0 : Int) (a0_1 : Int) (a0_2 : Int) (a0_3 : ByteArray) : Option (Int × Int × Int × ByteArray) := if 0 ≤ (mn (a0_3.size : Int) 60) then (if (mn (a0_3.size : Int) 60) ≤ (a0_3.size : Int) then (some (a0_0, a0_1, a0_2, a0_3.extract 0 ((mn (a0_3.size : Int) 60) : Int).toNat)) else (none)) else (none)
set_option maxHeartbeats 8000000 in
set_option maxRecDepth 100000 in
theorem withylaw03_Cut.calls (a0_0 : Int) (a0_1 : Int) (a0_2 : Int) (a0_3 : ByteArray) (r1 : Int) (r2 : Int) (r3 : Int) (r4 : ByteArray) (w : World) (h : withylaw03_Cut.f a0_0 a0_1 a0_2 a0_3 = some (r1, r2, r3, r4)) :
  Calls Tryd.prog 9 #[.agg #[.int .i64 a0_0, .int .i64 a0_1, .int .u64 a0_2, .string a0_3]] w fun e w' => e = .returned (.agg #[.int .i64 r1, .int .i64 r2, .int .u64 r3, .string r4]) ∧ Below w.heap.size w w' := by
 have hu24 := Tryd.underlying24
 have HB := as_ (Below.refl w.heap.size w)
 have H : (if 0 ≤ (mn (a0_3.size : Int) 60) then (if (mn (a0_3.size : Int) 60) ≤ (a0_3.size : Int) then (some (a0_0, a0_1, a0_2, a0_3.extract 0 ((mn (a0_3.size : Int) 60) : Int).toNat)) else (none)) else (none)) = some (r1, r2, r3, r4) := h
 clear h
 obtain ⟨ji2, hji2⟩ : ∃ j_ : Int, (mn (a0_3.size : Int) 60) = j_ := ⟨_, rfl⟩
 replace H : (if 0 ≤ (ji2) then (if (ji2) ≤ (a0_3.size : Int) then (some (a0_0, a0_1, a0_2, a0_3.extract 0 ((ji2) : Int).toNat)) else (none)) else (none)) = some (r1, r2, r3, r4) := by first | (rw [hji2] at H; exact H) | (simp only [hji2] at H ⊢; exact H)
 (try (have hji2h : ji2 ≤ 60 := by (rw [← hji2]; unfold mn; (repeat' split) <;> omega)))
 (try (have hji2g : ji2 ≤ 64 := by omega))
 (try (have hji2l : 0 ≤ ji2 := by (rw [← hji2]; unfold mn; (repeat' split) <;> omega)))
 (try (have hji2m : 0 ≤ ji2 := by omega))
 have hji2_ : (if 60 < (a0_3.size : Int) then 60 else (a0_3.size : Int)) = ji2 := hji2
 by_cases c3 : 0 ≤ (ji2)
 rotate_left
 ·rw [if_neg c3] at H
  exact absurd H (by simp)
 
 rw [if_pos c3] at H
 have c3b0 := eq_true c3
 have c3b1 : decide (0 ≤ (ji2)) = true := decide_eq_true c3
 clear c3
 by_cases c4 : (ji2) ≤ (a0_3.size : Int)
 rotate_left
 ·rw [if_neg c4] at H
  exact absurd H (by simp)
 rw [if_pos c4] at H
 have c4b0 := eq_true c4
 have c4b1 : decide ((ji2) ≤ (a0_3.size : Int)) = true := decide_eq_true c4
 clear c4
 obtain ⟨js5, hjs5⟩ : ∃ j_ : ByteArray, (a0_3.extract 0 ((ji2) : Int).toNat) = j_ := ⟨_, rfl⟩
 replace H : (some (a0_0, a0_1, a0_2, js5)) = some (r1, r2, r3, r4) := by first | (rw [hjs5] at H; exact H) | (simp only [hjs5] at H ⊢; exact H)
 simp only [Option.some.injEq, Prod.mk.injEq] at H
 obtain ⟨rfl, rfl, rfl, rfl⟩ := H
 go_enter Tryd.func9, Tryd.ntmps9
 go_wp2_with (first | ((with_reducible refine gate_dst (N := 1) rfl ?_); refine box_event (by rfl) (N := 1) (by rfl) (cs := #[.int .i64 a0_0, .int .i64 a0_1, .int .u64 a0_2, .string a0_3]) (t := 24) gS ?_; intro gb101 hg w6 hbox hb; have BK101 := as_ (hbox); have GW101 := gw hg bA; have GE101 := gw hg bA; replace HB := as_ (below_step bA hb); clear hb hbox hg) | ((with_reducible refine gate_dst (N := 2) rfl ?_); refine box_event ?hg (N := 2) ?hd (cs := #[.int .i64 0, .int .i64 0, .int .u64 0, .string (⟨#[]⟩ : ByteArray)]) (t := 24) ?hr ?_; (case hd => rfl); (case hg => rfl); (case hr => first | (go_simp; done) | (go_simp; rfl)); intro gb102 hg w7 hbox hb; have BK102 := as_ (hbox); have GW102 := gw hg bA; have GE102 := gw hg bA; have NB101_102 := nl BK101 hg; have NB102_101 := ng BK101 hg; replace BK101 := bb BK101 hb; replace HB := as_ (below_step bA hb); clear hb hbox hg; have hnb8 := NB101_102.out; have hnc8 := NB102_101.out; obtain ⟨hcz9_0, hcz9_1, hcz9_2, hcz9_3⟩ := zc4 BK101; obtain ⟨hfz9_0, hfz9_1, hfz9_2, hfz9_3⟩ := zf4 BK101; obtain ⟨hcz10_0, hcz10_1, hcz10_2, hcz10_3⟩ := zc4 BK102; obtain ⟨hfz10_0, hfz10_1, hfz10_2, hfz10_3⟩ := zf4 BK102))
 refine bodyPost_ret (results_cell_row rfl _ _ gb102 24 #[.int .i64 a0_0, .int .i64 a0_1, .int .u64 a0_2, .string js5] (0, 0) _ rfl (by refine bx ?_; refine blk_put (cs := #[.int .i64 a0_0, .int .i64 a0_1, .int .u64 a0_2, .string (⟨#[]⟩ : ByteArray)]) ?_ 3 _ rfl; refine bx ?_; refine blk_put (cs := #[.int .i64 a0_0, .int .i64 a0_1, .int .u64 0, .string (⟨#[]⟩ : ByteArray)]) ?_ 2 _ rfl; refine bx ?_; refine blk_put (cs := #[.int .i64 a0_0, .int .i64 0, .int .u64 0, .string (⟨#[]⟩ : ByteArray)]) ?_ 1 _ rfl; refine bx ?_; refine blk_put (cs := #[.int .i64 0, .int .i64 0, .int .u64 0, .string (⟨#[]⟩ : ByteArray)]) ?_ 0 _ rfl; refine bx ?_; refine blk_far ?_ NB102_101.out _; refine bx ?_; exact BK102.out) Tryd.underlying24 rfl (by kernel_rfl)) rfl ?_
 exact ⟨by first | rfl | (simp [errW_none, errW_some] <;> rfl) | (simp only [← hji2, ← hjs5]; first | rfl | (simp [errW_none, errW_some] <;> rfl)) | (simp [*, errW_none, errW_some] <;> rfl), by repeat (first | (with_reducible first | exact HB.out | apply below_alloc | apply pw_below_drewN | apply below_drew1 | refine below_set ?_ GE101.out | refine below_set ?_ GE102.out) | exact HB.out)⟩
/-! ### col_only: function 35 -/
def col_only.j0 : Nat → Int → Bool → Int → Int → Int → ByteArray → Option (Int × Int × Int × ByteArray)
 | 0, _, _, _, _, _, _ => none
 | k + 1, x4, x5, x104000, x104001, x104002, x104003 => if x5 = true then (some (x104000, 0, x104002, (⟨#[]⟩ : ByteArray))) else (if x4 = 2 then (some (2, x104001, 0, (⟨#[]⟩ : ByteArray))) else (if x4 = 4 then (some (4, 0, 0, x104003)) else (some (x104000, 0, 0, (⟨#[]⟩ : ByteArray)))))
def col_only.f (k : Nat) (a0_0 : Int) (a0_1 : Int) (a0_2 : Int) (a0_3 : ByteArray) : Option (Int × Int × Int × ByteArray) := if a0_0 = 1 then (col_only.j0 k a0_0 (a0_0 == 1) a0_0 a0_1 a0_2 a0_3) else (col_only.j0 k a0_0 (a0_0 == 3) a0_0 a0_1 a0_2 a0_3)
theorem col_only.mono_l : ∀ k, (∀ y0 y1 y2 y3 y4 y5, LeO (col_only.j0 k y0 y1 y2 y3 y4 y5) (col_only.j0 (k + 1) y0 y1 y2 y3 y4 y5))
 | 0 => fun _ _ _ _ _ _ r h => by simp [col_only.j0] at h
 | k + 1 => by
  have ih0 := col_only.mono_l k
  ·intro y0 y1 y2 y3 y4 y5
   unfold col_only.j0
   repeat' first
   | (with_reducible exact ih0 _ _ _ _ _ _)
   | (with_reducible exact LeO.refl _)
   | (with_reducible exact LeO.none _)
   | (with_reducible refine LeO.ite ?_ ?_)
   | (with_reducible refine LeO.bind ?_ (fun _ => ?_))
   | exact ih0 _ _ _ _ _ _
   | exact LeO.none _
   | refine LeO.ite ?_ ?_
   | refine LeO.bind ?_ (fun _ => ?_)
theorem col_only.mono : ∀ a0 a1 a2 a3 k, LeO (col_only.f k a0 a1 a2 a3) (col_only.f (k + 1) a0 a1 a2 a3) := by
 intro a0 a1 a2 a3 k
 have ih0 := col_only.mono_l k
 unfold col_only.f
 repeat' first
   | (with_reducible exact ih0 _ _ _ _ _ _)
   | (with_reducible exact LeO.refl _)
   | (with_reducible exact LeO.none _)
   | (with_reducible refine LeO.ite ?_ ?_)
   | (with_reducible refine LeO.bind ?_ (fun _ => ?_))
   | exact ih0 _ _ _ _ _ _
   | exact LeO.none _
   | refine LeO.ite ?_ ?_
   | refine LeO.bind ?_ (fun _ => ?_)
set_option maxHeartbeats 8000000 in
set_option maxRecDepth 100000 in
theorem col_only.calls (k : Nat) (a0_0 : Int) (a0_1 : Int) (a0_2 : Int) (a0_3 : ByteArray) (r1 : Int) (r2 : Int) (r3 : Int) (r4 : ByteArray) (w : World) (h : col_only.f k a0_0 a0_1 a0_2 a0_3 = some (r1, r2, r3, r4)) :
  Calls Tryd.prog 35 #[.agg #[.int .i64 a0_0, .int .i64 a0_1, .int .u64 a0_2, .string a0_3]] w fun e w' => e = .returned (.agg #[.int .i64 r1, .int .i64 r2, .int .u64 r3, .string r4]) ∧ Below w.heap.size w w' := by
 have hu24 := Tryd.underlying24
 have HB := as_ (Below.refl w.heap.size w)
 have H : (if a0_0 = 1 then (col_only.j0 k a0_0 (a0_0 == 1) a0_0 a0_1 a0_2 a0_3) else (col_only.j0 k a0_0 (a0_0 == 3) a0_0 a0_1 a0_2 a0_3)) = some (r1, r2, r3, r4) := h
 clear h
 have HC2 := Aside0.mk H
 clear H
 go_enter Tryd.func35, Tryd.ntmps35
 go_upto_if 5 with (first | ((with_reducible refine gate_dst (N := 1) rfl ?_); refine box_event (by rfl) (N := 1) (by rfl) (cs := #[.int .i64 a0_0, .int .i64 a0_1, .int .u64 a0_2, .string a0_3]) (t := 24) gS ?_; intro gb103 hg w3 hbox hb; have BK103 := as_ (hbox); have GW103 := gw hg bA; have GE103 := gw hg bA; replace HB := as_ (below_step bA hb); clear hb hbox hg) | ((with_reducible refine gate_dst (N := 2) rfl ?_); refine box_event ?hg (N := 2) ?hd (cs := #[.int .i64 0, .int .i64 0, .int .u64 0, .string (⟨#[]⟩ : ByteArray)]) (t := 24) ?hr ?_; (case hd => rfl); (case hg => rfl); (case hr => first | (go_simp; done) | (go_simp; rfl)); intro gb104 hg w4 hbox hb; have BK104 := as_ (hbox); have GW104 := gw hg bA; have GE104 := gw hg bA; have NB103_104 := nl BK103 hg; have NB104_103 := ng BK103 hg; replace BK103 := bb BK103 hb; replace HB := as_ (below_step bA hb); clear hb hbox hg; have hnb5 := NB103_104.out; have hnc5 := NB104_103.out; obtain ⟨hcz6_0, hcz6_1, hcz6_2, hcz6_3⟩ := zc4 BK103; obtain ⟨hfz6_0, hfz6_1, hfz6_2, hfz6_3⟩ := zf4 BK103))
 (try simp only [Act.put, List.setIfInBounds_toArray, List.set_cons_zero, List.set_cons_succ])
 go_cut [5] (fun v5 wc => ∃ (kq : Nat) (x5_1 : Bool), v5 = .bool x5_1 ∧ Aside0 (col_only.j0 kq a0_0 x5_1 a0_0 a0_1 a0_2 a0_3 = some (r1, r2, r3, r4)) ∧ Aside0 (kq ≤ k) ∧ Aside0 (wc.heap[gb103]? = some (.cells #[.int .i64 a0_0, .int .i64 a0_1, .int .u64 a0_2, .string a0_3] 24 (0, 0))) ∧ Aside0 (wc.heap[gb104]? = some (.cells #[.int .i64 0, .int .i64 0, .int .u64 0, .string (⟨#[]⟩ : ByteArray)] 24 (0, 0))) ∧ Aside0 (Below w.heap.size w wc))
 case first =>
  have H := HC2.out
  clear HC2
  by_cases c7 : a0_0 = 1
  rotate_left
  ·rw [if_neg c7] at H
   have c7b0 : (a0_0 == 1) = false := beq_eq_false_iff_ne.mpr c7
   have c7b1 : (a0_0 != 1) = true := bne_iff_ne.mpr c7
   (first | rw [c7b0] | (simp only [i64_w, i32_w]; rw [c7b0]) | rw [c7b1] | skip)
   have H' := Aside0.mk H
   clear H
   go_wp2
   go_meet
   case rel => exact ⟨_, ((a0_0 == 3)), (by first | rfl | (simp; done) | (simp [*]; done)), H', ⟨by first | omega | exact Nat.le_refl _⟩, ⟨by refine bx ?_; exact BK103.out⟩, ⟨by refine bx ?_; exact BK104.out⟩, ⟨by repeat (first | (with_reducible first | exact HB.out | apply below_alloc | apply pw_below_drewN | apply below_drew1 | refine below_set ?_ GE103.out | refine below_set ?_ GE104.out) | exact HB.out)⟩⟩
  rw [if_pos c7] at H
  have c7b0 : (a0_0 == 1) = true := beq_iff_eq.mpr c7
  have c7b1 : (a0_0 != 1) = false := bne_eq_false_iff_eq.mpr c7
  clear c7
  (first | rw [c7b0] | (simp only [i64_w, i32_w]; rw [c7b0]) | rw [c7b1] | skip)
  have H' := Aside0.mk H
  clear H
  go_wp2
  go_meet
  case rel => exact ⟨_, ((a0_0 == 1)), (by first | rfl | (simp; done) | (simp [*]; done)), H', ⟨by first | omega | exact Nat.le_refl _⟩, ⟨by refine bx ?_; exact BK103.out⟩, ⟨by refine bx ?_; exact BK104.out⟩, ⟨by repeat (first | (with_reducible first | exact HB.out | apply below_alloc | apply pw_below_drewN | apply below_drew1 | refine below_set ?_ GE103.out | refine below_set ?_ GE104.out) | exact HB.out)⟩⟩
 case rest =>
  clear HC2
  try clear p2
  try clear c3
  try clear c5
  try clear c7
  try clear c7b0
  try clear c7b1
  try clear hcz6_0
  try clear hcz6_1
  try clear hcz6_2
  try clear hcz6_3
  try clear hfz6_0
  try clear hfz6_1
  try clear hfz6_2
  try clear hfz6_3
  obtain ⟨kq, x5_1, rfl, HA, HJ1, BK103, BK104, HB⟩ := hcut
  cases kq with
  | zero => exact absurd HA.out (by simp [col_only.j0])
  | succ kj1 =>
   have H := HA.out
   clear HA
   simp only [col_only.j0] at H
   by_cases c8 : x5_1 = true
   ·subst c8
    have H1 : (some (a0_0, 0, a0_2, (⟨#[]⟩ : ByteArray))) = some (r1, r2, r3, r4) := by rw [if_pos rfl] at H; exact H
    clear H
    have H := H1
    clear H1
    simp only [Option.some.injEq, Prod.mk.injEq] at H
    obtain ⟨rfl, rfl, rfl, rfl⟩ := H
    have hnb9 := NB103_104.out
    have hnc9 := NB104_103.out
    obtain ⟨hcz10_0, hcz10_1, hcz10_2, hcz10_3⟩ := zc4 BK103
    obtain ⟨hfz10_0, hfz10_1, hfz10_2, hfz10_3⟩ := zf4 BK103
    obtain ⟨hcz11_0, hcz11_1, hcz11_2, hcz11_3⟩ := zc4 BK104
    obtain ⟨hfz11_0, hfz11_1, hfz11_2, hfz11_3⟩ := zf4 BK104
    go_wp2
    refine bodyPost_ret (results_cell_row rfl _ _ gb104 24 #[.int .i64 a0_0, .int .i64 0, .int .u64 a0_2, .string (⟨#[]⟩ : ByteArray)] (0, 0) _ rfl (by refine bx ?_; refine blk_put (cs := #[.int .i64 a0_0, .int .i64 0, .int .u64 a0_2, .string (⟨#[]⟩ : ByteArray)]) ?_ 3 _ rfl; refine bx ?_; refine blk_put (cs := #[.int .i64 a0_0, .int .i64 0, .int .u64 0, .string (⟨#[]⟩ : ByteArray)]) ?_ 2 _ rfl; refine bx ?_; refine blk_put (cs := #[.int .i64 a0_0, .int .i64 0, .int .u64 0, .string (⟨#[]⟩ : ByteArray)]) ?_ 1 _ rfl; refine bx ?_; refine blk_put (cs := #[.int .i64 0, .int .i64 0, .int .u64 0, .string (⟨#[]⟩ : ByteArray)]) ?_ 0 _ rfl; refine bx ?_; exact BK104.out) Tryd.underlying24 rfl (by kernel_rfl)) rfl ?_
    exact ⟨eW, by repeat (first | (with_reducible first | exact HB.out | apply below_alloc | apply pw_below_drewN | apply below_drew1 | refine below_set ?_ GE103.out | refine below_set ?_ GE104.out) | exact HB.out)⟩
   replace c8 := Bool.eq_false_iff.mpr c8
   subst c8
   have H1 : (if a0_0 = 2 then (some (2, a0_1, 0, (⟨#[]⟩ : ByteArray))) else (if a0_0 = 4 then (some (4, 0, 0, a0_3)) else (some (a0_0, 0, 0, (⟨#[]⟩ : ByteArray))))) = some (r1, r2, r3, r4) := by rw [if_neg (show ¬ (false = true) by decide)] at H; exact H
   clear H
   have H := H1
   clear H1
   by_cases c12 : a0_0 = 2
   ·rw [if_pos c12] at H
    have c12b0 : (a0_0 == 2) = true := beq_iff_eq.mpr c12
    have c12b1 : (a0_0 != 2) = false := bne_eq_false_iff_eq.mpr c12
    clear c12
    simp only [Option.some.injEq, Prod.mk.injEq] at H
    obtain ⟨rfl, rfl, rfl, rfl⟩ := H
    have hnb13 := NB103_104.out
    have hnc13 := NB104_103.out
    obtain ⟨hcz14_0, hcz14_1, hcz14_2, hcz14_3⟩ := zc4 BK103
    obtain ⟨hfz14_0, hfz14_1, hfz14_2, hfz14_3⟩ := zf4 BK103
    obtain ⟨hcz15_0, hcz15_1, hcz15_2, hcz15_3⟩ := zc4 BK104
    obtain ⟨hfz15_0, hfz15_1, hfz15_2, hfz15_3⟩ := zf4 BK104
    go_wp2
    refine bodyPost_ret (results_cell_row rfl _ _ gb104 24 #[.int .i64 2, .int .i64 a0_1, .int .u64 0, .string (⟨#[]⟩ : ByteArray)] (0, 0) _ rfl (by refine bx ?_; refine blk_put (cs := #[.int .i64 2, .int .i64 a0_1, .int .u64 0, .string (⟨#[]⟩ : ByteArray)]) ?_ 3 _ rfl; refine bx ?_; refine blk_put (cs := #[.int .i64 2, .int .i64 a0_1, .int .u64 0, .string (⟨#[]⟩ : ByteArray)]) ?_ 2 _ rfl; refine bx ?_; refine blk_put (cs := #[.int .i64 2, .int .i64 0, .int .u64 0, .string (⟨#[]⟩ : ByteArray)]) ?_ 1 _ rfl; refine bx ?_; refine blk_put (cs := #[.int .i64 0, .int .i64 0, .int .u64 0, .string (⟨#[]⟩ : ByteArray)]) ?_ 0 _ rfl; refine bx ?_; exact BK104.out) Tryd.underlying24 rfl (by kernel_rfl)) rfl ?_
    exact ⟨eW, by repeat (first | (with_reducible first | exact HB.out | apply below_alloc | apply pw_below_drewN | apply below_drew1 | refine below_set ?_ GE103.out | refine below_set ?_ GE104.out) | exact HB.out)⟩
   rw [if_neg c12] at H
   have c12b0 : (a0_0 == 2) = false := beq_eq_false_iff_ne.mpr c12
   have c12b1 : (a0_0 != 2) = true := bne_iff_ne.mpr c12
   by_cases c16 : a0_0 = 4
   rotate_left
   ·rw [if_neg c16] at H
    have c16b0 : (a0_0 == 4) = false := beq_eq_false_iff_ne.mpr c16
    have c16b1 : (a0_0 != 4) = true := bne_iff_ne.mpr c16
    simp only [Option.some.injEq, Prod.mk.injEq] at H
    obtain ⟨rfl, rfl, rfl, rfl⟩ := H
    have hnb20 := NB103_104.out
    have hnc20 := NB104_103.out
    obtain ⟨hcz21_0, hcz21_1, hcz21_2, hcz21_3⟩ := zc4 BK103
    obtain ⟨hfz21_0, hfz21_1, hfz21_2, hfz21_3⟩ := zf4 BK103
    obtain ⟨hcz22_0, hcz22_1, hcz22_2, hcz22_3⟩ := zc4 BK104
    obtain ⟨hfz22_0, hfz22_1, hfz22_2, hfz22_3⟩ := zf4 BK104
    go_wp2
    refine bodyPost_ret (results_cell_row rfl _ _ gb104 24 #[.int .i64 a0_0, .int .i64 0, .int .u64 0, .string (⟨#[]⟩ : ByteArray)] (0, 0) _ rfl (by refine bx ?_; refine blk_put (cs := #[.int .i64 a0_0, .int .i64 0, .int .u64 0, .string (⟨#[]⟩ : ByteArray)]) ?_ 3 _ rfl; refine bx ?_; refine blk_put (cs := #[.int .i64 a0_0, .int .i64 0, .int .u64 0, .string (⟨#[]⟩ : ByteArray)]) ?_ 2 _ rfl; refine bx ?_; refine blk_put (cs := #[.int .i64 a0_0, .int .i64 0, .int .u64 0, .string (⟨#[]⟩ : ByteArray)]) ?_ 1 _ rfl; refine bx ?_; refine blk_put (cs := #[.int .i64 0, .int .i64 0, .int .u64 0, .string (⟨#[]⟩ : ByteArray)]) ?_ 0 _ rfl; refine bx ?_; exact BK104.out) Tryd.underlying24 rfl (by kernel_rfl)) rfl ?_
    exact ⟨eW, by repeat (first | (with_reducible first | exact HB.out | apply below_alloc | apply pw_below_drewN | apply below_drew1 | refine below_set ?_ GE103.out | refine below_set ?_ GE104.out) | exact HB.out)⟩
 
   rw [if_pos c16] at H
   have c16b0 : (a0_0 == 4) = true := beq_iff_eq.mpr c16
   have c16b1 : (a0_0 != 4) = false := bne_eq_false_iff_eq.mpr c16
   clear c16
   simp only [Option.some.injEq, Prod.mk.injEq] at H
   obtain ⟨rfl, rfl, rfl, rfl⟩ := H
   have hnb17 := NB103_104.out
   have hnc17 := NB104_103.out
   obtain ⟨hcz18_0, hcz18_1, hcz18_2, hcz18_3⟩ := zc4 BK103
   obtain ⟨hfz18_0, hfz18_1, hfz18_2, hfz18_3⟩ := zf4 BK103
   obtain ⟨hcz19_0, hcz19_1, hcz19_2, hcz19_3⟩ := zc4 BK104
   obtain ⟨hfz19_0, hfz19_1, hfz19_2, hfz19_3⟩ := zf4 BK104
   go_wp2
   refine bodyPost_ret (results_cell_row rfl _ _ gb104 24 #[.int .i64 4, .int .i64 0, .int .u64 0, .string a0_3] (0, 0) _ rfl (by refine bx ?_; refine blk_put (cs := #[.int .i64 4, .int .i64 0, .int .u64 0, .string (⟨#[]⟩ : ByteArray)]) ?_ 3 _ rfl; refine bx ?_; refine blk_put (cs := #[.int .i64 4, .int .i64 0, .int .u64 0, .string (⟨#[]⟩ : ByteArray)]) ?_ 2 _ rfl; refine bx ?_; refine blk_put (cs := #[.int .i64 4, .int .i64 0, .int .u64 0, .string (⟨#[]⟩ : ByteArray)]) ?_ 1 _ rfl; refine bx ?_; refine blk_put (cs := #[.int .i64 0, .int .i64 0, .int .u64 0, .string (⟨#[]⟩ : ByteArray)]) ?_ 0 _ rfl; refine bx ?_; exact BK104.out) Tryd.underlying24 rfl (by kernel_rfl)) rfl ?_
   exact ⟨eW, by repeat (first | (with_reducible first | exact HB.out | apply below_alloc | apply pw_below_drewN | apply below_drew1 | refine below_set ?_ GE103.out | refine below_set ?_ GE104.out) | exact HB.out)⟩
/-! ### col_Right: function 15 -/
def col_Right.f (k : Nat) (a0_0 : Int) (a0_1 : Int) (a0_2 : Int) (a0_3 : ByteArray) : Option (Bool) := if a0_0 ≥ 0 then (if a0_0 < 5 then ((col_only.f k a0_0 a0_1 a0_2 a0_3).bind fun bt106 => (if (a0_0 == bt106.1 && (a0_1 == bt106.2.1 && (a0_2 == bt106.2.2.1 && (a0_3.toList == bt106.2.2.2.toList)))) = true then (if a0_0 = 1 then (some (decide (a0_2 ≤ 1))) else (some true)) else (some false))) else (some false)) else (some false)
theorem col_Right.mono : ∀ a0 a1 a2 a3 k, LeO (col_Right.f k a0 a1 a2 a3) (col_Right.f (k + 1) a0 a1 a2 a3) := by
 intro a0 a1 a2 a3 k
 unfold col_Right.f
 repeat' first
   | (with_reducible exact col_only.mono _ _ _ _ _)
   | (with_reducible exact LeO.refl _)
   | (with_reducible exact LeO.none _)
   | (with_reducible refine LeO.ite ?_ ?_)
   | (with_reducible refine LeO.bind ?_ (fun _ => ?_))
   | exact col_only.mono _ _ _ _ _
   | exact LeO.none _
   | refine LeO.ite ?_ ?_
   | refine LeO.bind ?_ (fun _ => ?_)
def col_Right.T1 : Bool × List (List Nat × List Nat) := (true, [([], []), ([0], [0]), ([1], [1]), ([2], [2]), ([3], [3]), ([4, 3], [3, 4]), ([5, 3], [3, 5]), ([3, 6], [3, 6]), ([7, 3], [7]), ([8], [8]), ([8], [8]), ([10, 8, 8], [8, 10]), ([9, 11, 8], [8, 9, 11]), ([8, 12], [8, 12]), ([13, 11], [13]), ([14], [14]), ([15, 14], [14, 15]), ([16, 14], [14, 16]), ([17, 14, 14], [14, 17]), ([18], [18]), ([19, 18], [18, 19]), ([20, 18], [18, 20]), ([18, 21, 14], [14, 18, 21]), ([14, 22], [14, 22]), ([23, 18, 0, 1, 2, 3, 4, 5, 6, 7, 8, 9, 10, 11, 12, 13, 14, 15, 16, 17, 18, 19, 20, 21, 22, 23], [23])])
def col_Right.B1 : List Nat := [0, 1, 3, 7, 15, 31, 63, 127, 255, 511, 511, 1535, 4095, 8191, 16383, 32767, 65535, 131071, 262143, 524287, 1048575, 2097151, 4194303, 8388607, 16777215]
theorem col_Right.tab1 : rtab .any (opsOf Tryd.f15 1) = col_Right.T1 := by kernel_rfl
theorem col_Right.bits1 : waitsOk col_Right.T1.2 col_Right.B1 = true := by kernel_rfl
set_option maxHeartbeats 8000000 in
set_option maxRecDepth 100000 in
theorem col_Right.calls (k : Nat) (a0_0 : Int) (a0_1 : Int) (a0_2 : Int) (a0_3 : ByteArray) (r : Bool) (w : World) (h : col_Right.f k a0_0 a0_1 a0_2 a0_3 = some r) :
  Calls Tryd.prog 15 #[.agg #[.int .i64 a0_0, .int .i64 a0_1, .int .u64 a0_2, .string a0_3]] w fun e w' => e = .returned (.bool r) ∧ Below w.heap.size w w' := by
 have hu24 := Tryd.underlying24
 have HB := as_ (Below.refl w.heap.size w)
 have H : (if a0_0 ≥ 0 then (if a0_0 < 5 then ((col_only.f k a0_0 a0_1 a0_2 a0_3).bind fun bt106 => (if (a0_0 == bt106.1 && (a0_1 == bt106.2.1 && (a0_2 == bt106.2.2.1 && (a0_3.toList == bt106.2.2.2.toList)))) = true then (if a0_0 = 1 then (some (decide (a0_2 ≤ 1))) else (some true)) else (some false))) else (some false)) else (some false)) = some r := h
 clear h
 by_cases c2 : a0_0 ≥ 0
 rotate_left
 ·rw [if_neg c2] at H
  have c2b0 : decide (0 ≤ a0_0) = false := decide_eq_false c2
  clear c2
  obtain rfl := Option.some.inj H
  go_enter Tryd.func15, Tryd.ntmps15
  try go_wp2_with (first | ((with_reducible refine gate_dst (N := 1) rfl ?_); refine box_event (by rfl) (N := 1) (by rfl) (cs := #[.int .i64 a0_0, .int .i64 a0_1, .int .u64 a0_2, .string a0_3]) (t := 24) gS ?_; intro gb105 hg w18 hbox hb; have BK105 := as_ (hbox); have GW105 := gw hg bA; have GE105 := gw hg bA; replace HB := as_ (below_step bA hb); clear hb hbox hg))
  replace BK105 := as_ (blk_drew BK105.out)
  replace HB := as_ (below_drew1 HB.out)
  refine start_ (n := 25) (S := fun w' => w'.cell? ⟨gb105, 0, none⟩ = some (.int .i64 a0_0) ∧ w'.cell? ⟨gb105, 1, none⟩ = some (.int .i64 a0_1) ∧ w'.cell? ⟨gb105, 2, none⟩ = some (.int .u64 a0_2) ∧ w'.cell? ⟨gb105, 3, none⟩ = some (.string a0_3)) (ds := []) #[ff, ff, ff, ff, ff, ff, ff, ff, ff, ff, ff, ff, ff, ff, ff, ff, ff, ff, ff, ff, ff, ff, ff, ff, ff] (by kernel_rfl) rfl rfl ⟨(blk_cell BK105.out 0).trans rfl, (blk_cell BK105.out 1).trans rfl, (blk_cell BK105.out 2).trans rfl, (blk_cell BK105.out 3).trans rfl⟩ (fun hHeld => ?_); refine with_tabW col_Right.tab1 col_Right.bits1 (fun HT_ HW_ => ?_)
  generalize w18.drew = w19 at BK105 HB hHeld ⊢
  refine pure_ (i := 0) (N := some 3) (v := ?_) (a' := ?_) #[tt, ff, ff, ff, ff, ff, ff, ff, ff, ff, ff, ff, ff, ff, ff, ff, ff, ff, ff, ff, ff, ff, ff, ff, ff] rfl rfl (any_of HT_.out (by kernel_rfl)) (fun _ _ _ h => h) (Or.inl ⟨by rfl, ?_⟩) ?_ ?_
  rotate_left
  ·intro w'
   go_simp
   with_reducible rfl
  rotate_left
  ·exact aP
  refine take_ (i := 1) (N := some 4) (v := ?_) (a' := ?_) #[tt, tt, ff, ff, ff, ff, ff, ff, ff, ff, ff, ff, ff, ff, ff, ff, ff, ff, ff, ff, ff, ff, ff, ff, ff] rfl rfl (take_ofW HT_.out HW_.out (by kernel_rfl)) (fun _ _ _ h => h) (Or.inl ⟨by rfl, ?_⟩) hHeld ?_ ?_
  rotate_left
  ·rintro w' ⟨s0, s1, s2, s3⟩
   go_simp
   with_reducible rfl
  rotate_left
  ·exact aP
  refine pure_ (i := 2) (N := some 5) (v := ?_) (a' := ?_) #[tt, tt, tt, ff, ff, ff, ff, ff, ff, ff, ff, ff, ff, ff, ff, ff, ff, ff, ff, ff, ff, ff, ff, ff, ff] rfl rfl (any_of HT_.out (by kernel_rfl)) (fun _ _ _ h => h) (Or.inl ⟨by rfl, ?_⟩) ?_ ?_
  rotate_left
  ·intro w'
   go_simp
   with_reducible rfl
  rotate_left
  ·exact aP
  refine pure_ (i := 3) (N := some 6) (v := ?_) (a' := ?_) #[tt, tt, tt, tt, ff, ff, ff, ff, ff, ff, ff, ff, ff, ff, ff, ff, ff, ff, ff, ff, ff, ff, ff, ff, ff] rfl rfl (any_of HT_.out (by kernel_rfl)) (fun _ _ _ h => h) (Or.inl ⟨by rfl, ?_⟩) ?_ ?_
  rotate_left
  ·intro w'
   go_simp
   with_reducible rfl
  rotate_left
  ·exact aP
  refine pure_ (i := 4) (N := some 7) (v := undef) (a' := ?_) #[tt, tt, tt, tt, tt, ff, ff, ff, ff, ff, ff, ff, ff, ff, ff, ff, ff, ff, ff, ff, ff, ff, ff, ff, ff] rfl rfl (any_of HT_.out (by kernel_rfl)) (fun _ _ _ h => h) (Or.inr ⟨by rfl, rfl⟩) ?_ ?_
  rotate_left
  ·exact aP
  refine pure_ (i := 5) (N := some 8) (v := undef) (a' := ?_) #[tt, tt, tt, tt, tt, tt, ff, ff, ff, ff, ff, ff, ff, ff, ff, ff, ff, ff, ff, ff, ff, ff, ff, ff, ff] rfl rfl (any_of HT_.out (by kernel_rfl)) (fun _ _ _ h => h) (Or.inr ⟨by rfl, rfl⟩) ?_ ?_
  rotate_left
  ·exact aP
  refine pure_ (i := 6) (N := some 9) (v := undef) (a' := ?_) #[tt, tt, tt, tt, tt, tt, tt, ff, ff, ff, ff, ff, ff, ff, ff, ff, ff, ff, ff, ff, ff, ff, ff, ff, ff] rfl rfl (any_of HT_.out (by kernel_rfl)) (fun _ _ _ h => h) (Or.inr ⟨by rfl, rfl⟩) ?_ ?_
  rotate_left
  ·exact aP
  refine pure_ (i := 7) (N := some 10) (v := ?_) (a' := ?_) #[tt, tt, tt, tt, tt, tt, tt, tt, ff, ff, ff, ff, ff, ff, ff, ff, ff, ff, ff, ff, ff, ff, ff, ff, ff] rfl rfl (any_of HT_.out (by kernel_rfl)) (fun _ _ _ h => h) (Or.inl ⟨by rfl, ?_⟩) ?_ ?_
  rotate_left
  ·intro w'
   go_simp
   with_reducible rfl
  rotate_left
  ·exact aP
  refine pure_ (i := 8) (N := some 11) (v := ?_) (a' := ?_) #[tt, tt, tt, tt, tt, tt, tt, tt, tt, ff, ff, ff, ff, ff, ff, ff, ff, ff, ff, ff, ff, ff, ff, ff, ff] rfl rfl (any_of HT_.out (by kernel_rfl)) (fun _ _ _ h => h) (Or.inl ⟨by rfl, ?_⟩) ?_ ?_
  rotate_left
  ·intro w'
   go_simp
   with_reducible rfl
  rotate_left
  ·exact aP
  refine pure_ (i := 9) (N := some 12) (v := undef) (a' := ?_) #[tt, tt, tt, tt, tt, tt, tt, tt, tt, tt, ff, ff, ff, ff, ff, ff, ff, ff, ff, ff, ff, ff, ff, ff, ff] rfl rfl (any_of HT_.out (by kernel_rfl)) (fun _ _ _ h => h) (Or.inr ⟨by rfl, rfl⟩) ?_ ?_
  rotate_left
  ·exact aP
  refine pure_ (i := 10) (N := some 13) (v := undef) (a' := ?_) #[tt, tt, tt, tt, tt, tt, tt, tt, tt, tt, tt, ff, ff, ff, ff, ff, ff, ff, ff, ff, ff, ff, ff, ff, ff] rfl rfl (any_of HT_.out (by kernel_rfl)) (fun _ _ _ h => h) (Or.inr ⟨by rfl, rfl⟩) ?_ ?_
  rotate_left
  ·exact aP
  refine pure_ (i := 11) (N := some 14) (v := undef) (a' := ?_) #[tt, tt, tt, tt, tt, tt, tt, tt, tt, tt, tt, tt, ff, ff, ff, ff, ff, ff, ff, ff, ff, ff, ff, ff, ff] rfl rfl (any_of HT_.out (by kernel_rfl)) (fun _ _ _ h => h) (Or.inr ⟨by rfl, rfl⟩) ?_ ?_
  rotate_left
  ·exact aP
  refine pure_ (i := 12) (N := some 15) (v := undef) (a' := ?_) #[tt, tt, tt, tt, tt, tt, tt, tt, tt, tt, tt, tt, tt, ff, ff, ff, ff, ff, ff, ff, ff, ff, ff, ff, ff] rfl rfl (any_of HT_.out (by kernel_rfl)) (fun _ _ _ h => h) (Or.inr ⟨by rfl, rfl⟩) ?_ ?_
  rotate_left
  ·exact aP
  refine pure_ (i := 13) (N := some 16) (v := ?_) (a' := ?_) #[tt, tt, tt, tt, tt, tt, tt, tt, tt, tt, tt, tt, tt, tt, ff, ff, ff, ff, ff, ff, ff, ff, ff, ff, ff] rfl rfl (any_of HT_.out (by kernel_rfl)) (fun _ _ _ h => h) (Or.inl ⟨by rfl, ?_⟩) ?_ ?_
  rotate_left
  ·intro w'
   go_simp
   with_reducible rfl
  rotate_left
  ·exact aP
  refine pure_ (i := 14) (N := some 17) (v := ?_) (a' := ?_) #[tt, tt, tt, tt, tt, tt, tt, tt, tt, tt, tt, tt, tt, tt, tt, ff, ff, ff, ff, ff, ff, ff, ff, ff, ff] rfl rfl (any_of HT_.out (by kernel_rfl)) (fun _ _ _ h => h) (Or.inl ⟨by rfl, ?_⟩) ?_ ?_
  rotate_left
  ·intro w'
   go_simp
   with_reducible rfl
  rotate_left
  ·exact aP
  refine pure_ (i := 15) (N := some 18) (v := undef) (a' := ?_) #[tt, tt, tt, tt, tt, tt, tt, tt, tt, tt, tt, tt, tt, tt, tt, tt, ff, ff, ff, ff, ff, ff, ff, ff, ff] rfl rfl (any_of HT_.out (by kernel_rfl)) (fun _ _ _ h => h) (Or.inr ⟨by rfl, rfl⟩) ?_ ?_
  rotate_left
  ·exact aP
  refine pure_ (i := 16) (N := some 19) (v := undef) (a' := ?_) #[tt, tt, tt, tt, tt, tt, tt, tt, tt, tt, tt, tt, tt, tt, tt, tt, tt, ff, ff, ff, ff, ff, ff, ff, ff] rfl rfl (any_of HT_.out (by kernel_rfl)) (fun _ _ _ h => h) (Or.inr ⟨by rfl, rfl⟩) ?_ ?_
  rotate_left
  ·exact aP
  refine pure_ (i := 17) (N := some 20) (v := undef) (a' := ?_) #[tt, tt, tt, tt, tt, tt, tt, tt, tt, tt, tt, tt, tt, tt, tt, tt, tt, tt, ff, ff, ff, ff, ff, ff, ff] rfl rfl (any_of HT_.out (by kernel_rfl)) (fun _ _ _ h => h) (Or.inr ⟨by rfl, rfl⟩) ?_ ?_
  rotate_left
  ·exact aP
  refine pure_ (i := 18) (N := some 21) (v := undef) (a' := ?_) #[tt, tt, tt, tt, tt, tt, tt, tt, tt, tt, tt, tt, tt, tt, tt, tt, tt, tt, tt, ff, ff, ff, ff, ff, ff] rfl rfl (any_of HT_.out (by kernel_rfl)) (fun _ _ _ h => h) (Or.inr ⟨by rfl, rfl⟩) ?_ ?_
  rotate_left
  ·exact aP
  refine pure_ (i := 19) (N := some 22) (v := undef) (a' := ?_) #[tt, tt, tt, tt, tt, tt, tt, tt, tt, tt, tt, tt, tt, tt, tt, tt, tt, tt, tt, tt, ff, ff, ff, ff, ff] rfl rfl (any_of HT_.out (by kernel_rfl)) (fun _ _ _ h => h) (Or.inr ⟨by rfl, rfl⟩) ?_ ?_
  rotate_left
  ·exact aP
  refine pure_ (i := 20) (N := some 23) (v := undef) (a' := ?_) #[tt, tt, tt, tt, tt, tt, tt, tt, tt, tt, tt, tt, tt, tt, tt, tt, tt, tt, tt, tt, tt, ff, ff, ff, ff] rfl rfl (any_of HT_.out (by kernel_rfl)) (fun _ _ _ h => h) (Or.inr ⟨by rfl, rfl⟩) ?_ ?_
  rotate_left
  ·exact aP
  refine pure_ (i := 21) (N := some 24) (v := undef) (a' := ?_) #[tt, tt, tt, tt, tt, tt, tt, tt, tt, tt, tt, tt, tt, tt, tt, tt, tt, tt, tt, tt, tt, tt, ff, ff, ff] rfl rfl (any_of HT_.out (by kernel_rfl)) (fun _ _ _ h => h) (Or.inr ⟨by rfl, rfl⟩) ?_ ?_
  rotate_left
  ·exact aP
  refine pure_ (i := 22) (N := some 25) (v := undef) (a' := ?_) #[tt, tt, tt, tt, tt, tt, tt, tt, tt, tt, tt, tt, tt, tt, tt, tt, tt, tt, tt, tt, tt, tt, tt, ff, ff] rfl rfl (any_of HT_.out (by kernel_rfl)) (fun _ _ _ h => h) (Or.inr ⟨by rfl, rfl⟩) ?_ ?_
  rotate_left
  ·exact aP
  refine pure_ (i := 23) (N := some 26) (v := ?_) (a' := ?_) #[tt, tt, tt, tt, tt, tt, tt, tt, tt, tt, tt, tt, tt, tt, tt, tt, tt, tt, tt, tt, tt, tt, tt, tt, ff] rfl rfl (any_of HT_.out (by kernel_rfl)) (fun _ _ _ h => h) (Or.inl ⟨by rfl, ?_⟩) ?_ ?_
  rotate_left
  ·intro w'
   go_simp
   with_reducible rfl
  rotate_left
  ·exact aP
  refine pure_ (i := 24) (N := some 2) (v := ?_) (a' := ?_) #[tt, tt, tt, tt, tt, tt, tt, tt, tt, tt, tt, tt, tt, tt, tt, tt, tt, tt, tt, tt, tt, tt, tt, tt, tt] rfl rfl (any_of HT_.out (by kernel_rfl)) (fun _ _ _ h => h) (Or.inl ⟨by rfl, ?_⟩) ?_ ?_
  rotate_left
  ·intro w'
   go_simp
   with_reducible rfl
  rotate_left
  ·exact aP
  refine done_ (done_of HT_.out (by kernel_rfl)) ?_
  try go_wp2
  go_ret
  exact ⟨eW, by repeat (first | (with_reducible first | exact HB.out | apply below_alloc | apply pw_below_drewN | apply below_drew1 | refine below_set ?_ GE105.out) | exact HB.out)⟩
 
 rw [if_pos c2] at H
 have c2b0 : decide (0 ≤ a0_0) = true := decide_eq_true c2
 clear c2
 by_cases c3 : a0_0 < 5
 rotate_left
 ·rw [if_neg c3] at H
  have c3b0 : decide (a0_0 < 5) = false := decide_eq_false c3
  clear c3
  obtain rfl := Option.some.inj H
  go_enter Tryd.func15, Tryd.ntmps15
  try go_wp2_with (first | ((with_reducible refine gate_dst (N := 1) rfl ?_); refine box_event (by rfl) (N := 1) (by rfl) (cs := #[.int .i64 a0_0, .int .i64 a0_1, .int .u64 a0_2, .string a0_3]) (t := 24) gS ?_; intro gb105 hg w16 hbox hb; have BK105 := as_ (hbox); have GW105 := gw hg bA; have GE105 := gw hg bA; replace HB := as_ (below_step bA hb); clear hb hbox hg))
  replace BK105 := as_ (blk_drew BK105.out)
  replace HB := as_ (below_drew1 HB.out)
  refine start_ (n := 25) (S := fun w' => w'.cell? ⟨gb105, 0, none⟩ = some (.int .i64 a0_0) ∧ w'.cell? ⟨gb105, 1, none⟩ = some (.int .i64 a0_1) ∧ w'.cell? ⟨gb105, 2, none⟩ = some (.int .u64 a0_2) ∧ w'.cell? ⟨gb105, 3, none⟩ = some (.string a0_3)) (ds := []) #[ff, ff, ff, ff, ff, ff, ff, ff, ff, ff, ff, ff, ff, ff, ff, ff, ff, ff, ff, ff, ff, ff, ff, ff, ff] (by kernel_rfl) rfl rfl ⟨(blk_cell BK105.out 0).trans rfl, (blk_cell BK105.out 1).trans rfl, (blk_cell BK105.out 2).trans rfl, (blk_cell BK105.out 3).trans rfl⟩ (fun hHeld => ?_); refine with_tabW col_Right.tab1 col_Right.bits1 (fun HT_ HW_ => ?_)
  generalize w16.drew = w17 at BK105 HB hHeld ⊢
  refine pure_ (i := 0) (N := some 3) (v := ?_) (a' := ?_) #[tt, ff, ff, ff, ff, ff, ff, ff, ff, ff, ff, ff, ff, ff, ff, ff, ff, ff, ff, ff, ff, ff, ff, ff, ff] rfl rfl (any_of HT_.out (by kernel_rfl)) (fun _ _ _ h => h) (Or.inl ⟨by rfl, ?_⟩) ?_ ?_
  rotate_left
  ·intro w'
   go_simp
   with_reducible rfl
  rotate_left
  ·exact aP
  refine take_ (i := 1) (N := some 4) (v := ?_) (a' := ?_) #[tt, tt, ff, ff, ff, ff, ff, ff, ff, ff, ff, ff, ff, ff, ff, ff, ff, ff, ff, ff, ff, ff, ff, ff, ff] rfl rfl (take_ofW HT_.out HW_.out (by kernel_rfl)) (fun _ _ _ h => h) (Or.inl ⟨by rfl, ?_⟩) hHeld ?_ ?_
  rotate_left
  ·rintro w' ⟨s0, s1, s2, s3⟩
   go_simp
   with_reducible rfl
  rotate_left
  ·exact aP
  refine pure_ (i := 2) (N := some 5) (v := ?_) (a' := ?_) #[tt, tt, tt, ff, ff, ff, ff, ff, ff, ff, ff, ff, ff, ff, ff, ff, ff, ff, ff, ff, ff, ff, ff, ff, ff] rfl rfl (any_of HT_.out (by kernel_rfl)) (fun _ _ _ h => h) (Or.inl ⟨by rfl, ?_⟩) ?_ ?_
  rotate_left
  ·intro w'
   go_simp
   with_reducible rfl
  rotate_left
  ·exact aP
  refine pure_ (i := 3) (N := some 6) (v := ?_) (a' := ?_) #[tt, tt, tt, tt, ff, ff, ff, ff, ff, ff, ff, ff, ff, ff, ff, ff, ff, ff, ff, ff, ff, ff, ff, ff, ff] rfl rfl (any_of HT_.out (by kernel_rfl)) (fun _ _ _ h => h) (Or.inl ⟨by rfl, ?_⟩) ?_ ?_
  rotate_left
  ·intro w'
   go_simp
   with_reducible rfl
  rotate_left
  ·exact aP
  refine pure_ (i := 4) (N := some 7) (v := ?_) (a' := ?_) #[tt, tt, tt, tt, tt, ff, ff, ff, ff, ff, ff, ff, ff, ff, ff, ff, ff, ff, ff, ff, ff, ff, ff, ff, ff] rfl rfl (any_of HT_.out (by kernel_rfl)) (fun _ _ _ h => h) (Or.inl ⟨by rfl, ?_⟩) ?_ ?_
  rotate_left
  ·intro w'
   go_simp
   with_reducible rfl
  rotate_left
  ·exact aP
  refine take_ (i := 5) (N := some 8) (v := ?_) (a' := ?_) #[tt, tt, tt, tt, tt, tt, ff, ff, ff, ff, ff, ff, ff, ff, ff, ff, ff, ff, ff, ff, ff, ff, ff, ff, ff] rfl rfl (take_ofW HT_.out HW_.out (by kernel_rfl)) (fun _ _ _ h => h) (Or.inl ⟨by rfl, ?_⟩) hHeld ?_ ?_
  rotate_left
  ·rintro w' ⟨s0, s1, s2, s3⟩
   go_simp
   with_reducible rfl
  rotate_left
  ·exact aP
  refine pure_ (i := 6) (N := some 9) (v := ?_) (a' := ?_) #[tt, tt, tt, tt, tt, tt, tt, ff, ff, ff, ff, ff, ff, ff, ff, ff, ff, ff, ff, ff, ff, ff, ff, ff, ff] rfl rfl (any_of HT_.out (by kernel_rfl)) (fun _ _ _ h => h) (Or.inl ⟨by rfl, ?_⟩) ?_ ?_
  rotate_left
  ·intro w'
   go_simp
   with_reducible rfl
  rotate_left
  ·exact aP
  refine pure_ (i := 7) (N := some 10) (v := ?_) (a' := ?_) #[tt, tt, tt, tt, tt, tt, tt, tt, ff, ff, ff, ff, ff, ff, ff, ff, ff, ff, ff, ff, ff, ff, ff, ff, ff] rfl rfl (any_of HT_.out (by kernel_rfl)) (fun _ _ _ h => h) (Or.inl ⟨by rfl, ?_⟩) ?_ ?_
  rotate_left
  ·intro w'
   go_simp
   with_reducible rfl
  rotate_left
  ·exact aP
  refine pure_ (i := 8) (N := some 11) (v := ?_) (a' := ?_) #[tt, tt, tt, tt, tt, tt, tt, tt, tt, ff, ff, ff, ff, ff, ff, ff, ff, ff, ff, ff, ff, ff, ff, ff, ff] rfl rfl (any_of HT_.out (by kernel_rfl)) (fun _ _ _ h => h) (Or.inl ⟨by rfl, ?_⟩) ?_ ?_
  rotate_left
  ·intro w'
   go_simp
   with_reducible rfl
  rotate_left
  ·exact aP
  refine pure_ (i := 9) (N := some 12) (v := undef) (a' := ?_) #[tt, tt, tt, tt, tt, tt, tt, tt, tt, tt, ff, ff, ff, ff, ff, ff, ff, ff, ff, ff, ff, ff, ff, ff, ff] rfl rfl (any_of HT_.out (by kernel_rfl)) (fun _ _ _ h => h) (Or.inr ⟨by rfl, rfl⟩) ?_ ?_
  rotate_left
  ·exact aP
  refine pure_ (i := 10) (N := some 13) (v := undef) (a' := ?_) #[tt, tt, tt, tt, tt, tt, tt, tt, tt, tt, tt, ff, ff, ff, ff, ff, ff, ff, ff, ff, ff, ff, ff, ff, ff] rfl rfl (any_of HT_.out (by kernel_rfl)) (fun _ _ _ h => h) (Or.inr ⟨by rfl, rfl⟩) ?_ ?_
  rotate_left
  ·exact aP
  refine pure_ (i := 11) (N := some 14) (v := undef) (a' := ?_) #[tt, tt, tt, tt, tt, tt, tt, tt, tt, tt, tt, tt, ff, ff, ff, ff, ff, ff, ff, ff, ff, ff, ff, ff, ff] rfl rfl (any_of HT_.out (by kernel_rfl)) (fun _ _ _ h => h) (Or.inr ⟨by rfl, rfl⟩) ?_ ?_
  rotate_left
  ·exact aP
  refine pure_ (i := 12) (N := some 15) (v := undef) (a' := ?_) #[tt, tt, tt, tt, tt, tt, tt, tt, tt, tt, tt, tt, tt, ff, ff, ff, ff, ff, ff, ff, ff, ff, ff, ff, ff] rfl rfl (any_of HT_.out (by kernel_rfl)) (fun _ _ _ h => h) (Or.inr ⟨by rfl, rfl⟩) ?_ ?_
  rotate_left
  ·exact aP
  refine pure_ (i := 13) (N := some 16) (v := ?_) (a' := ?_) #[tt, tt, tt, tt, tt, tt, tt, tt, tt, tt, tt, tt, tt, tt, ff, ff, ff, ff, ff, ff, ff, ff, ff, ff, ff] rfl rfl (any_of HT_.out (by kernel_rfl)) (fun _ _ _ h => h) (Or.inl ⟨by rfl, ?_⟩) ?_ ?_
  rotate_left
  ·intro w'
   go_simp
   with_reducible rfl
  rotate_left
  ·exact aP
  refine pure_ (i := 14) (N := some 17) (v := ?_) (a' := ?_) #[tt, tt, tt, tt, tt, tt, tt, tt, tt, tt, tt, tt, tt, tt, tt, ff, ff, ff, ff, ff, ff, ff, ff, ff, ff] rfl rfl (any_of HT_.out (by kernel_rfl)) (fun _ _ _ h => h) (Or.inl ⟨by rfl, ?_⟩) ?_ ?_
  rotate_left
  ·intro w'
   go_simp
   with_reducible rfl
  rotate_left
  ·exact aP
  refine pure_ (i := 15) (N := some 18) (v := undef) (a' := ?_) #[tt, tt, tt, tt, tt, tt, tt, tt, tt, tt, tt, tt, tt, tt, tt, tt, ff, ff, ff, ff, ff, ff, ff, ff, ff] rfl rfl (any_of HT_.out (by kernel_rfl)) (fun _ _ _ h => h) (Or.inr ⟨by rfl, rfl⟩) ?_ ?_
  rotate_left
  ·exact aP
  refine pure_ (i := 16) (N := some 19) (v := undef) (a' := ?_) #[tt, tt, tt, tt, tt, tt, tt, tt, tt, tt, tt, tt, tt, tt, tt, tt, tt, ff, ff, ff, ff, ff, ff, ff, ff] rfl rfl (any_of HT_.out (by kernel_rfl)) (fun _ _ _ h => h) (Or.inr ⟨by rfl, rfl⟩) ?_ ?_
  rotate_left
  ·exact aP
  refine pure_ (i := 17) (N := some 20) (v := undef) (a' := ?_) #[tt, tt, tt, tt, tt, tt, tt, tt, tt, tt, tt, tt, tt, tt, tt, tt, tt, tt, ff, ff, ff, ff, ff, ff, ff] rfl rfl (any_of HT_.out (by kernel_rfl)) (fun _ _ _ h => h) (Or.inr ⟨by rfl, rfl⟩) ?_ ?_
  rotate_left
  ·exact aP
  refine pure_ (i := 18) (N := some 21) (v := undef) (a' := ?_) #[tt, tt, tt, tt, tt, tt, tt, tt, tt, tt, tt, tt, tt, tt, tt, tt, tt, tt, tt, ff, ff, ff, ff, ff, ff] rfl rfl (any_of HT_.out (by kernel_rfl)) (fun _ _ _ h => h) (Or.inr ⟨by rfl, rfl⟩) ?_ ?_
  rotate_left
  ·exact aP
  refine pure_ (i := 19) (N := some 22) (v := undef) (a' := ?_) #[tt, tt, tt, tt, tt, tt, tt, tt, tt, tt, tt, tt, tt, tt, tt, tt, tt, tt, tt, tt, ff, ff, ff, ff, ff] rfl rfl (any_of HT_.out (by kernel_rfl)) (fun _ _ _ h => h) (Or.inr ⟨by rfl, rfl⟩) ?_ ?_
  rotate_left
  ·exact aP
  refine pure_ (i := 20) (N := some 23) (v := undef) (a' := ?_) #[tt, tt, tt, tt, tt, tt, tt, tt, tt, tt, tt, tt, tt, tt, tt, tt, tt, tt, tt, tt, tt, ff, ff, ff, ff] rfl rfl (any_of HT_.out (by kernel_rfl)) (fun _ _ _ h => h) (Or.inr ⟨by rfl, rfl⟩) ?_ ?_
  rotate_left
  ·exact aP
  refine pure_ (i := 21) (N := some 24) (v := undef) (a' := ?_) #[tt, tt, tt, tt, tt, tt, tt, tt, tt, tt, tt, tt, tt, tt, tt, tt, tt, tt, tt, tt, tt, tt, ff, ff, ff] rfl rfl (any_of HT_.out (by kernel_rfl)) (fun _ _ _ h => h) (Or.inr ⟨by rfl, rfl⟩) ?_ ?_
  rotate_left
  ·exact aP
  refine pure_ (i := 22) (N := some 25) (v := undef) (a' := ?_) #[tt, tt, tt, tt, tt, tt, tt, tt, tt, tt, tt, tt, tt, tt, tt, tt, tt, tt, tt, tt, tt, tt, tt, ff, ff] rfl rfl (any_of HT_.out (by kernel_rfl)) (fun _ _ _ h => h) (Or.inr ⟨by rfl, rfl⟩) ?_ ?_
  rotate_left
  ·exact aP
  refine pure_ (i := 23) (N := some 26) (v := ?_) (a' := ?_) #[tt, tt, tt, tt, tt, tt, tt, tt, tt, tt, tt, tt, tt, tt, tt, tt, tt, tt, tt, tt, tt, tt, tt, tt, ff] rfl rfl (any_of HT_.out (by kernel_rfl)) (fun _ _ _ h => h) (Or.inl ⟨by rfl, ?_⟩) ?_ ?_
  rotate_left
  ·intro w'
   go_simp
   with_reducible rfl
  rotate_left
  ·exact aP
  refine pure_ (i := 24) (N := some 2) (v := ?_) (a' := ?_) #[tt, tt, tt, tt, tt, tt, tt, tt, tt, tt, tt, tt, tt, tt, tt, tt, tt, tt, tt, tt, tt, tt, tt, tt, tt] rfl rfl (any_of HT_.out (by kernel_rfl)) (fun _ _ _ h => h) (Or.inl ⟨by rfl, ?_⟩) ?_ ?_
  rotate_left
  ·intro w'
   go_simp
   with_reducible rfl
  rotate_left
  ·exact aP
  refine done_ (done_of HT_.out (by kernel_rfl)) ?_
  try go_wp2
  go_ret
  exact ⟨eW, by repeat (first | (with_reducible first | exact HB.out | apply below_alloc | apply pw_below_drewN | apply below_drew1 | refine below_set ?_ GE105.out) | exact HB.out)⟩
 rw [if_pos c3] at H
 have c3b0 : decide (a0_0 < 5) = true := decide_eq_true c3
 clear c3
 replace H := bM H
 obtain ⟨⟨t106, t107, t108, t109⟩, A40, H⟩ := H
 replace H : (if (a0_0 == t106 && (a0_1 == t107 && (a0_2 == t108 && (a0_3.toList == t109.toList)))) = true then (if a0_0 = 1 then (some (decide (a0_2 ≤ 1))) else (some true)) else (some false)) = some r := H
 have A4 := Aside0.mk A40
 clear A40
 by_cases c5 : (a0_0 == t106 && (a0_1 == t107 && (a0_2 == t108 && (a0_3.toList == t109.toList)))) = true
 rotate_left
 ·rw [if_neg c5] at H
  have c5b0 : (a0_0 == t106 && (a0_1 == t107 && (a0_2 == t108 && (a0_3.toList == t109.toList)))) = false := by simpa using c5
  (try (have c5b8 : (a0_0 = t106 ∧ a0_1 = t107 ∧ a0_2 = t108 ∧ a0_3.toList = t109.toList) = False := eq_false (by simpa using c5)))
  (try (have c5b1 : decide (a0_0 = t106 && (a0_1 == t107 && (a0_2 == t108 && (a0_3.toList == t109.toList)))) = false := by simpa using c5))
  (try (have c5b2 : (a0_0 == t106 && (a0_1 == t107 && (a0_2 == t108 && (a0_3.toList == t109.toList)))) = false := by simpa using c5))
  (try (have c5b3 : ¬ (a0_0 = t106 && (a0_1 == t107 && (a0_2 == t108 && (a0_3.toList == t109.toList)))) := by simpa using c5))
  clear c5
  obtain rfl := Option.some.inj H
  go_enter Tryd.func15, Tryd.ntmps15
  try go_wp2_with (first | ((with_reducible refine gate_dst (N := 1) rfl ?_); refine box_event (by rfl) (N := 1) (by rfl) (cs := #[.int .i64 a0_0, .int .i64 a0_1, .int .u64 a0_2, .string a0_3]) (t := 24) gS ?_; intro gb105 hg w13 hbox hb; have BK105 := as_ (hbox); have GW105 := gw hg bA; have GE105 := gw hg bA; replace HB := as_ (below_step bA hb); clear hb hbox hg))
  replace BK105 := as_ (blk_drew BK105.out)
  replace HB := as_ (below_drew1 HB.out)
  refine start_ (n := 25) (S := fun w' => w'.cell? ⟨gb105, 0, none⟩ = some (.int .i64 a0_0) ∧ w'.cell? ⟨gb105, 1, none⟩ = some (.int .i64 a0_1) ∧ w'.cell? ⟨gb105, 2, none⟩ = some (.int .u64 a0_2) ∧ w'.cell? ⟨gb105, 3, none⟩ = some (.string a0_3)) (ds := []) #[ff, ff, ff, ff, ff, ff, ff, ff, ff, ff, ff, ff, ff, ff, ff, ff, ff, ff, ff, ff, ff, ff, ff, ff, ff] (by kernel_rfl) rfl rfl ⟨(blk_cell BK105.out 0).trans rfl, (blk_cell BK105.out 1).trans rfl, (blk_cell BK105.out 2).trans rfl, (blk_cell BK105.out 3).trans rfl⟩ (fun hHeld => ?_); refine with_tabW col_Right.tab1 col_Right.bits1 (fun HT_ HW_ => ?_)
  generalize w13.drew = w14 at BK105 HB hHeld ⊢
  refine pure_ (i := 0) (N := some 3) (v := ?_) (a' := ?_) #[tt, ff, ff, ff, ff, ff, ff, ff, ff, ff, ff, ff, ff, ff, ff, ff, ff, ff, ff, ff, ff, ff, ff, ff, ff] rfl rfl (any_of HT_.out (by kernel_rfl)) (fun _ _ _ h => h) (Or.inl ⟨by rfl, ?_⟩) ?_ ?_
  rotate_left
  ·intro w'
   go_simp
   with_reducible rfl
  rotate_left
  ·exact aP
  refine take_ (i := 1) (N := some 4) (v := ?_) (a' := ?_) #[tt, tt, ff, ff, ff, ff, ff, ff, ff, ff, ff, ff, ff, ff, ff, ff, ff, ff, ff, ff, ff, ff, ff, ff, ff] rfl rfl (take_ofW HT_.out HW_.out (by kernel_rfl)) (fun _ _ _ h => h) (Or.inl ⟨by rfl, ?_⟩) hHeld ?_ ?_
  rotate_left
  ·rintro w' ⟨s0, s1, s2, s3⟩
   go_simp
   with_reducible rfl
  rotate_left
  ·exact aP
  refine pure_ (i := 2) (N := some 5) (v := ?_) (a' := ?_) #[tt, tt, tt, ff, ff, ff, ff, ff, ff, ff, ff, ff, ff, ff, ff, ff, ff, ff, ff, ff, ff, ff, ff, ff, ff] rfl rfl (any_of HT_.out (by kernel_rfl)) (fun _ _ _ h => h) (Or.inl ⟨by rfl, ?_⟩) ?_ ?_
  rotate_left
  ·intro w'
   go_simp
   with_reducible rfl
  rotate_left
  ·exact aP
  refine pure_ (i := 3) (N := some 6) (v := ?_) (a' := ?_) #[tt, tt, tt, tt, ff, ff, ff, ff, ff, ff, ff, ff, ff, ff, ff, ff, ff, ff, ff, ff, ff, ff, ff, ff, ff] rfl rfl (any_of HT_.out (by kernel_rfl)) (fun _ _ _ h => h) (Or.inl ⟨by rfl, ?_⟩) ?_ ?_
  rotate_left
  ·intro w'
   go_simp
   with_reducible rfl
  rotate_left
  ·exact aP
  refine pure_ (i := 4) (N := some 7) (v := ?_) (a' := ?_) #[tt, tt, tt, tt, tt, ff, ff, ff, ff, ff, ff, ff, ff, ff, ff, ff, ff, ff, ff, ff, ff, ff, ff, ff, ff] rfl rfl (any_of HT_.out (by kernel_rfl)) (fun _ _ _ h => h) (Or.inl ⟨by rfl, ?_⟩) ?_ ?_
  rotate_left
  ·intro w'
   go_simp
   with_reducible rfl
  rotate_left
  ·exact aP
  refine take_ (i := 5) (N := some 8) (v := ?_) (a' := ?_) #[tt, tt, tt, tt, tt, tt, ff, ff, ff, ff, ff, ff, ff, ff, ff, ff, ff, ff, ff, ff, ff, ff, ff, ff, ff] rfl rfl (take_ofW HT_.out HW_.out (by kernel_rfl)) (fun _ _ _ h => h) (Or.inl ⟨by rfl, ?_⟩) hHeld ?_ ?_
  rotate_left
  ·rintro w' ⟨s0, s1, s2, s3⟩
   go_simp
   with_reducible rfl
  rotate_left
  ·exact aP
  refine pure_ (i := 6) (N := some 9) (v := ?_) (a' := ?_) #[tt, tt, tt, tt, tt, tt, tt, ff, ff, ff, ff, ff, ff, ff, ff, ff, ff, ff, ff, ff, ff, ff, ff, ff, ff] rfl rfl (any_of HT_.out (by kernel_rfl)) (fun _ _ _ h => h) (Or.inl ⟨by rfl, ?_⟩) ?_ ?_
  rotate_left
  ·intro w'
   go_simp
   with_reducible rfl
  rotate_left
  ·exact aP
  refine pure_ (i := 7) (N := some 10) (v := ?_) (a' := ?_) #[tt, tt, tt, tt, tt, tt, tt, tt, ff, ff, ff, ff, ff, ff, ff, ff, ff, ff, ff, ff, ff, ff, ff, ff, ff] rfl rfl (any_of HT_.out (by kernel_rfl)) (fun _ _ _ h => h) (Or.inl ⟨by rfl, ?_⟩) ?_ ?_
  rotate_left
  ·intro w'
   go_simp
   with_reducible rfl
  rotate_left
  ·exact aP
  refine pure_ (i := 8) (N := some 11) (v := ?_) (a' := ?_) #[tt, tt, tt, tt, tt, tt, tt, tt, tt, ff, ff, ff, ff, ff, ff, ff, ff, ff, ff, ff, ff, ff, ff, ff, ff] rfl rfl (any_of HT_.out (by kernel_rfl)) (fun _ _ _ h => h) (Or.inl ⟨by rfl, ?_⟩) ?_ ?_
  rotate_left
  ·intro w'
   go_simp
   with_reducible rfl
  rotate_left
  ·exact aP
  refine take_ (i := 9) (N := some 12) (v := ?_) (a' := ?_) #[tt, tt, tt, tt, tt, tt, tt, tt, tt, tt, ff, ff, ff, ff, ff, ff, ff, ff, ff, ff, ff, ff, ff, ff, ff] rfl rfl (take_ofW HT_.out HW_.out (by kernel_rfl)) (fun _ _ _ h => h) (Or.inl ⟨by rfl, ?_⟩) hHeld ?_ ?_
  rotate_left
  ·rintro w' ⟨s0, s1, s2, s3⟩
   go_simp
   with_reducible rfl
  rotate_left
  ·exact aP
  refine take_ (i := 10) (N := some 13) (v := ?_) (a' := ?_) #[tt, tt, tt, tt, tt, tt, tt, tt, tt, tt, tt, ff, ff, ff, ff, ff, ff, ff, ff, ff, ff, ff, ff, ff, ff] rfl rfl (take_ofW HT_.out HW_.out (by kernel_rfl)) (fun _ _ _ h => h) (Or.inl ⟨by rfl, ?_⟩) hHeld ?_ ?_
  rotate_left
  ·rintro w' ⟨s0, s1, s2, s3⟩
   go_simp
   with_reducible rfl
  rotate_left
  ·exact aP
  refine one_ (i := 11) (N := some 14) #[tt, tt, tt, tt, tt, tt, tt, tt, tt, tt, tt, tt, ff, ff, ff, ff, ff, ff, ff, ff, ff, ff, ff, ff, ff] rfl rfl (one_of HT_.out (by kernel_rfl)) (by decide) (fun K hK => ?_)
  refine goes_ Tryd.func35 (by kernel_rfl) rfl #[.agg #[.int .i64 a0_0, .int .i64 a0_1, .int .u64 a0_2, .string a0_3]] (by rfl) rfl rfl aO ?_
  with_reducible refine (col_only.calls k a0_0 a0_1 a0_2 a0_3 t106 t107 t108 t109 _ A4.out).mono ?_
  rintro e w15 ⟨rfl, hb⟩
  refine ⟨_, rfl, ?_⟩
  replace BK105 := bb BK105 hb
  replace HB := as_ (below_step bA hb)
  (try clear hb)
  (try clear hb2)
  (try clear hk)
  (try clear hi)
  refine hK.out _ _ ⟨(blk_cell BK105.out 0).trans rfl, (blk_cell BK105.out 1).trans rfl, (blk_cell BK105.out 2).trans rfl, (blk_cell BK105.out 3).trans rfl⟩ (fun hHeld => ?_)
  clear hK K
  refine norm_ (a' := ?_) ?_ ?_
  rotate_left
  ·show Act.put _ (some 14) _ = _
   simp only [Act.put, List.setIfInBounds_toArray, List.set_cons_zero, List.set_cons_succ, i64_w, i32_w]
   rfl
  refine pure_ (i := 12) (N := some 15) (v := ?_) (a' := ?_) #[tt, tt, tt, tt, tt, tt, tt, tt, tt, tt, tt, tt, tt, ff, ff, ff, ff, ff, ff, ff, ff, ff, ff, ff, ff] rfl rfl (any_of HT_.out (by kernel_rfl)) (fun _ _ _ h => h) (Or.inl ⟨by rfl, ?_⟩) ?_ ?_
  rotate_left
  ·intro w'
   go_simp
   with_reducible rfl
  rotate_left
  ·exact aP
  refine pure_ (i := 13) (N := some 16) (v := ?_) (a' := ?_) #[tt, tt, tt, tt, tt, tt, tt, tt, tt, tt, tt, tt, tt, tt, ff, ff, ff, ff, ff, ff, ff, ff, ff, ff, ff] rfl rfl (any_of HT_.out (by kernel_rfl)) (fun _ _ _ h => h) (Or.inl ⟨by rfl, ?_⟩) ?_ ?_
  rotate_left
  ·intro w'
   go_simp
   with_reducible rfl
  rotate_left
  ·exact aP
  refine pure_ (i := 14) (N := some 17) (v := ?_) (a' := ?_) #[tt, tt, tt, tt, tt, tt, tt, tt, tt, tt, tt, tt, tt, tt, tt, ff, ff, ff, ff, ff, ff, ff, ff, ff, ff] rfl rfl (any_of HT_.out (by kernel_rfl)) (fun _ _ _ h => h) (Or.inl ⟨by rfl, ?_⟩) ?_ ?_
  rotate_left
  ·intro w'
   go_simp
   with_reducible rfl
  rotate_left
  ·exact aP
  refine pure_ (i := 15) (N := some 18) (v := undef) (a' := ?_) #[tt, tt, tt, tt, tt, tt, tt, tt, tt, tt, tt, tt, tt, tt, tt, tt, ff, ff, ff, ff, ff, ff, ff, ff, ff] rfl rfl (any_of HT_.out (by kernel_rfl)) (fun _ _ _ h => h) (Or.inr ⟨by rfl, rfl⟩) ?_ ?_
  rotate_left
  ·exact aP
  refine pure_ (i := 16) (N := some 19) (v := undef) (a' := ?_) #[tt, tt, tt, tt, tt, tt, tt, tt, tt, tt, tt, tt, tt, tt, tt, tt, tt, ff, ff, ff, ff, ff, ff, ff, ff] rfl rfl (any_of HT_.out (by kernel_rfl)) (fun _ _ _ h => h) (Or.inr ⟨by rfl, rfl⟩) ?_ ?_
  rotate_left
  ·exact aP
  refine pure_ (i := 17) (N := some 20) (v := undef) (a' := ?_) #[tt, tt, tt, tt, tt, tt, tt, tt, tt, tt, tt, tt, tt, tt, tt, tt, tt, tt, ff, ff, ff, ff, ff, ff, ff] rfl rfl (any_of HT_.out (by kernel_rfl)) (fun _ _ _ h => h) (Or.inr ⟨by rfl, rfl⟩) ?_ ?_
  rotate_left
  ·exact aP
  refine pure_ (i := 18) (N := some 21) (v := undef) (a' := ?_) #[tt, tt, tt, tt, tt, tt, tt, tt, tt, tt, tt, tt, tt, tt, tt, tt, tt, tt, tt, ff, ff, ff, ff, ff, ff] rfl rfl (any_of HT_.out (by kernel_rfl)) (fun _ _ _ h => h) (Or.inr ⟨by rfl, rfl⟩) ?_ ?_
  rotate_left
  ·exact aP
  refine pure_ (i := 19) (N := some 22) (v := undef) (a' := ?_) #[tt, tt, tt, tt, tt, tt, tt, tt, tt, tt, tt, tt, tt, tt, tt, tt, tt, tt, tt, tt, ff, ff, ff, ff, ff] rfl rfl (any_of HT_.out (by kernel_rfl)) (fun _ _ _ h => h) (Or.inr ⟨by rfl, rfl⟩) ?_ ?_
  rotate_left
  ·exact aP
  refine pure_ (i := 20) (N := some 23) (v := undef) (a' := ?_) #[tt, tt, tt, tt, tt, tt, tt, tt, tt, tt, tt, tt, tt, tt, tt, tt, tt, tt, tt, tt, tt, ff, ff, ff, ff] rfl rfl (any_of HT_.out (by kernel_rfl)) (fun _ _ _ h => h) (Or.inr ⟨by rfl, rfl⟩) ?_ ?_
  rotate_left
  ·exact aP
  refine pure_ (i := 21) (N := some 24) (v := undef) (a' := ?_) #[tt, tt, tt, tt, tt, tt, tt, tt, tt, tt, tt, tt, tt, tt, tt, tt, tt, tt, tt, tt, tt, tt, ff, ff, ff] rfl rfl (any_of HT_.out (by kernel_rfl)) (fun _ _ _ h => h) (Or.inr ⟨by rfl, rfl⟩) ?_ ?_
  rotate_left
  ·exact aP
  refine pure_ (i := 22) (N := some 25) (v := undef) (a' := ?_) #[tt, tt, tt, tt, tt, tt, tt, tt, tt, tt, tt, tt, tt, tt, tt, tt, tt, tt, tt, tt, tt, tt, tt, ff, ff] rfl rfl (any_of HT_.out (by kernel_rfl)) (fun _ _ _ h => h) (Or.inr ⟨by rfl, rfl⟩) ?_ ?_
  rotate_left
  ·exact aP
  refine pure_ (i := 23) (N := some 26) (v := ?_) (a' := ?_) #[tt, tt, tt, tt, tt, tt, tt, tt, tt, tt, tt, tt, tt, tt, tt, tt, tt, tt, tt, tt, tt, tt, tt, tt, ff] rfl rfl (any_of HT_.out (by kernel_rfl)) (fun _ _ _ h => h) (Or.inl ⟨by rfl, ?_⟩) ?_ ?_
  rotate_left
  ·intro w'
   go_simp
   with_reducible rfl
  rotate_left
  ·exact aP
  refine pure_ (i := 24) (N := some 2) (v := ?_) (a' := ?_) #[tt, tt, tt, tt, tt, tt, tt, tt, tt, tt, tt, tt, tt, tt, tt, tt, tt, tt, tt, tt, tt, tt, tt, tt, tt] rfl rfl (any_of HT_.out (by kernel_rfl)) (fun _ _ _ h => h) (Or.inl ⟨by rfl, ?_⟩) ?_ ?_
  rotate_left
  ·intro w'
   go_simp
   with_reducible rfl
  rotate_left
  ·exact aP
  refine done_ (done_of HT_.out (by kernel_rfl)) ?_
  try go_wp2
  go_ret
  exact ⟨eW, by repeat (first | (with_reducible first | exact HB.out | apply below_alloc | apply pw_below_drewN | apply below_drew1 | refine below_set ?_ GE105.out) | exact HB.out)⟩
 rw [if_pos c5] at H
 have c5b0 : (a0_0 == t106 && (a0_1 == t107 && (a0_2 == t108 && (a0_3.toList == t109.toList)))) = true := c5
 (try (have c5b8 : (a0_0 = t106 ∧ a0_1 = t107 ∧ a0_2 = t108 ∧ a0_3.toList = t109.toList) = True := eq_true (by simpa using c5)))
 (try (have c5b1 : decide (a0_0 = t106 && (a0_1 == t107 && (a0_2 == t108 && (a0_3.toList == t109.toList)))) = true := by simpa using c5))
 (try (have c5b2 : (a0_0 == t106 && (a0_1 == t107 && (a0_2 == t108 && (a0_3.toList == t109.toList)))) = true := by simpa using c5))
 clear c5
 by_cases c6 : a0_0 = 1
 rotate_left
 ·rw [if_neg c6] at H
  have c6b0 : (a0_0 == 1) = false := beq_eq_false_iff_ne.mpr c6
  have c6b1 : (a0_0 != 1) = true := bne_iff_ne.mpr c6
  obtain rfl := Option.some.inj H
  go_enter Tryd.func15, Tryd.ntmps15
  try go_wp2_with (first | ((with_reducible refine gate_dst (N := 1) rfl ?_); refine box_event (by rfl) (N := 1) (by rfl) (cs := #[.int .i64 a0_0, .int .i64 a0_1, .int .u64 a0_2, .string a0_3]) (t := 24) gS ?_; intro gb105 hg w10 hbox hb; have BK105 := as_ (hbox); have GW105 := gw hg bA; have GE105 := gw hg bA; replace HB := as_ (below_step bA hb); clear hb hbox hg))
  replace BK105 := as_ (blk_drew BK105.out)
  replace HB := as_ (below_drew1 HB.out)
  refine start_ (n := 25) (S := fun w' => w'.cell? ⟨gb105, 0, none⟩ = some (.int .i64 a0_0) ∧ w'.cell? ⟨gb105, 1, none⟩ = some (.int .i64 a0_1) ∧ w'.cell? ⟨gb105, 2, none⟩ = some (.int .u64 a0_2) ∧ w'.cell? ⟨gb105, 3, none⟩ = some (.string a0_3)) (ds := []) #[ff, ff, ff, ff, ff, ff, ff, ff, ff, ff, ff, ff, ff, ff, ff, ff, ff, ff, ff, ff, ff, ff, ff, ff, ff] (by kernel_rfl) rfl rfl ⟨(blk_cell BK105.out 0).trans rfl, (blk_cell BK105.out 1).trans rfl, (blk_cell BK105.out 2).trans rfl, (blk_cell BK105.out 3).trans rfl⟩ (fun hHeld => ?_); refine with_tabW col_Right.tab1 col_Right.bits1 (fun HT_ HW_ => ?_)
  generalize w10.drew = w11 at BK105 HB hHeld ⊢
  refine pure_ (i := 0) (N := some 3) (v := ?_) (a' := ?_) #[tt, ff, ff, ff, ff, ff, ff, ff, ff, ff, ff, ff, ff, ff, ff, ff, ff, ff, ff, ff, ff, ff, ff, ff, ff] rfl rfl (any_of HT_.out (by kernel_rfl)) (fun _ _ _ h => h) (Or.inl ⟨by rfl, ?_⟩) ?_ ?_
  rotate_left
  ·intro w'
   go_simp
   with_reducible rfl
  rotate_left
  ·exact aP
  refine take_ (i := 1) (N := some 4) (v := ?_) (a' := ?_) #[tt, tt, ff, ff, ff, ff, ff, ff, ff, ff, ff, ff, ff, ff, ff, ff, ff, ff, ff, ff, ff, ff, ff, ff, ff] rfl rfl (take_ofW HT_.out HW_.out (by kernel_rfl)) (fun _ _ _ h => h) (Or.inl ⟨by rfl, ?_⟩) hHeld ?_ ?_
  rotate_left
  ·rintro w' ⟨s0, s1, s2, s3⟩
   go_simp
   with_reducible rfl
  rotate_left
  ·exact aP
  refine pure_ (i := 2) (N := some 5) (v := ?_) (a' := ?_) #[tt, tt, tt, ff, ff, ff, ff, ff, ff, ff, ff, ff, ff, ff, ff, ff, ff, ff, ff, ff, ff, ff, ff, ff, ff] rfl rfl (any_of HT_.out (by kernel_rfl)) (fun _ _ _ h => h) (Or.inl ⟨by rfl, ?_⟩) ?_ ?_
  rotate_left
  ·intro w'
   go_simp
   with_reducible rfl
  rotate_left
  ·exact aP
  refine pure_ (i := 3) (N := some 6) (v := ?_) (a' := ?_) #[tt, tt, tt, tt, ff, ff, ff, ff, ff, ff, ff, ff, ff, ff, ff, ff, ff, ff, ff, ff, ff, ff, ff, ff, ff] rfl rfl (any_of HT_.out (by kernel_rfl)) (fun _ _ _ h => h) (Or.inl ⟨by rfl, ?_⟩) ?_ ?_
  rotate_left
  ·intro w'
   go_simp
   with_reducible rfl
  rotate_left
  ·exact aP
  refine pure_ (i := 4) (N := some 7) (v := ?_) (a' := ?_) #[tt, tt, tt, tt, tt, ff, ff, ff, ff, ff, ff, ff, ff, ff, ff, ff, ff, ff, ff, ff, ff, ff, ff, ff, ff] rfl rfl (any_of HT_.out (by kernel_rfl)) (fun _ _ _ h => h) (Or.inl ⟨by rfl, ?_⟩) ?_ ?_
  rotate_left
  ·intro w'
   go_simp
   with_reducible rfl
  rotate_left
  ·exact aP
  refine take_ (i := 5) (N := some 8) (v := ?_) (a' := ?_) #[tt, tt, tt, tt, tt, tt, ff, ff, ff, ff, ff, ff, ff, ff, ff, ff, ff, ff, ff, ff, ff, ff, ff, ff, ff] rfl rfl (take_ofW HT_.out HW_.out (by kernel_rfl)) (fun _ _ _ h => h) (Or.inl ⟨by rfl, ?_⟩) hHeld ?_ ?_
  rotate_left
  ·rintro w' ⟨s0, s1, s2, s3⟩
   go_simp
   with_reducible rfl
  rotate_left
  ·exact aP
  refine pure_ (i := 6) (N := some 9) (v := ?_) (a' := ?_) #[tt, tt, tt, tt, tt, tt, tt, ff, ff, ff, ff, ff, ff, ff, ff, ff, ff, ff, ff, ff, ff, ff, ff, ff, ff] rfl rfl (any_of HT_.out (by kernel_rfl)) (fun _ _ _ h => h) (Or.inl ⟨by rfl, ?_⟩) ?_ ?_
  rotate_left
  ·intro w'
   go_simp
   with_reducible rfl
  rotate_left
  ·exact aP
  refine pure_ (i := 7) (N := some 10) (v := ?_) (a' := ?_) #[tt, tt, tt, tt, tt, tt, tt, tt, ff, ff, ff, ff, ff, ff, ff, ff, ff, ff, ff, ff, ff, ff, ff, ff, ff] rfl rfl (any_of HT_.out (by kernel_rfl)) (fun _ _ _ h => h) (Or.inl ⟨by rfl, ?_⟩) ?_ ?_
  rotate_left
  ·intro w'
   go_simp
   with_reducible rfl
  rotate_left
  ·exact aP
  refine pure_ (i := 8) (N := some 11) (v := ?_) (a' := ?_) #[tt, tt, tt, tt, tt, tt, tt, tt, tt, ff, ff, ff, ff, ff, ff, ff, ff, ff, ff, ff, ff, ff, ff, ff, ff] rfl rfl (any_of HT_.out (by kernel_rfl)) (fun _ _ _ h => h) (Or.inl ⟨by rfl, ?_⟩) ?_ ?_
  rotate_left
  ·intro w'
   go_simp
   with_reducible rfl
  rotate_left
  ·exact aP
  refine take_ (i := 9) (N := some 12) (v := ?_) (a' := ?_) #[tt, tt, tt, tt, tt, tt, tt, tt, tt, tt, ff, ff, ff, ff, ff, ff, ff, ff, ff, ff, ff, ff, ff, ff, ff] rfl rfl (take_ofW HT_.out HW_.out (by kernel_rfl)) (fun _ _ _ h => h) (Or.inl ⟨by rfl, ?_⟩) hHeld ?_ ?_
  rotate_left
  ·rintro w' ⟨s0, s1, s2, s3⟩
   go_simp
   with_reducible rfl
  rotate_left
  ·exact aP
  refine take_ (i := 10) (N := some 13) (v := ?_) (a' := ?_) #[tt, tt, tt, tt, tt, tt, tt, tt, tt, tt, tt, ff, ff, ff, ff, ff, ff, ff, ff, ff, ff, ff, ff, ff, ff] rfl rfl (take_ofW HT_.out HW_.out (by kernel_rfl)) (fun _ _ _ h => h) (Or.inl ⟨by rfl, ?_⟩) hHeld ?_ ?_
  rotate_left
  ·rintro w' ⟨s0, s1, s2, s3⟩
   go_simp
   with_reducible rfl
  rotate_left
  ·exact aP
  refine one_ (i := 11) (N := some 14) #[tt, tt, tt, tt, tt, tt, tt, tt, tt, tt, tt, tt, ff, ff, ff, ff, ff, ff, ff, ff, ff, ff, ff, ff, ff] rfl rfl (one_of HT_.out (by kernel_rfl)) (by decide) (fun K hK => ?_)
  refine goes_ Tryd.func35 (by kernel_rfl) rfl #[.agg #[.int .i64 a0_0, .int .i64 a0_1, .int .u64 a0_2, .string a0_3]] (by rfl) rfl rfl aO ?_
  with_reducible refine (col_only.calls k a0_0 a0_1 a0_2 a0_3 t106 t107 t108 t109 _ A4.out).mono ?_
  rintro e w12 ⟨rfl, hb⟩
  refine ⟨_, rfl, ?_⟩
  replace BK105 := bb BK105 hb
  replace HB := as_ (below_step bA hb)
  (try clear hb)
  (try clear hb2)
  (try clear hk)
  (try clear hi)
  refine hK.out _ _ ⟨(blk_cell BK105.out 0).trans rfl, (blk_cell BK105.out 1).trans rfl, (blk_cell BK105.out 2).trans rfl, (blk_cell BK105.out 3).trans rfl⟩ (fun hHeld => ?_)
  clear hK K
  refine norm_ (a' := ?_) ?_ ?_
  rotate_left
  ·show Act.put _ (some 14) _ = _
   simp only [Act.put, List.setIfInBounds_toArray, List.set_cons_zero, List.set_cons_succ, i64_w, i32_w]
   rfl
  refine pure_ (i := 12) (N := some 15) (v := ?_) (a' := ?_) #[tt, tt, tt, tt, tt, tt, tt, tt, tt, tt, tt, tt, tt, ff, ff, ff, ff, ff, ff, ff, ff, ff, ff, ff, ff] rfl rfl (any_of HT_.out (by kernel_rfl)) (fun _ _ _ h => h) (Or.inl ⟨by rfl, ?_⟩) ?_ ?_
  rotate_left
  ·intro w'
   go_simp
   with_reducible rfl
  rotate_left
  ·exact aP
  refine pure_ (i := 13) (N := some 16) (v := ?_) (a' := ?_) #[tt, tt, tt, tt, tt, tt, tt, tt, tt, tt, tt, tt, tt, tt, ff, ff, ff, ff, ff, ff, ff, ff, ff, ff, ff] rfl rfl (any_of HT_.out (by kernel_rfl)) (fun _ _ _ h => h) (Or.inl ⟨by rfl, ?_⟩) ?_ ?_
  rotate_left
  ·intro w'
   go_simp
   with_reducible rfl
  rotate_left
  ·exact aP
  refine pure_ (i := 14) (N := some 17) (v := ?_) (a' := ?_) #[tt, tt, tt, tt, tt, tt, tt, tt, tt, tt, tt, tt, tt, tt, tt, ff, ff, ff, ff, ff, ff, ff, ff, ff, ff] rfl rfl (any_of HT_.out (by kernel_rfl)) (fun _ _ _ h => h) (Or.inl ⟨by rfl, ?_⟩) ?_ ?_
  rotate_left
  ·intro w'
   go_simp
   with_reducible rfl
  rotate_left
  ·exact aP
  refine pure_ (i := 15) (N := some 18) (v := ?_) (a' := ?_) #[tt, tt, tt, tt, tt, tt, tt, tt, tt, tt, tt, tt, tt, tt, tt, tt, ff, ff, ff, ff, ff, ff, ff, ff, ff] rfl rfl (any_of HT_.out (by kernel_rfl)) (fun _ _ _ h => h) (Or.inl ⟨by rfl, ?_⟩) ?_ ?_
  rotate_left
  ·intro w'
   go_simp
   with_reducible rfl
  rotate_left
  ·exact aP
  refine take_ (i := 16) (N := some 19) (v := ?_) (a' := ?_) #[tt, tt, tt, tt, tt, tt, tt, tt, tt, tt, tt, tt, tt, tt, tt, tt, tt, ff, ff, ff, ff, ff, ff, ff, ff] rfl rfl (take_ofW HT_.out HW_.out (by kernel_rfl)) (fun _ _ _ h => h) (Or.inl ⟨by rfl, ?_⟩) hHeld ?_ ?_
  rotate_left
  ·rintro w' ⟨s0, s1, s2, s3⟩
   go_simp
   with_reducible rfl
  rotate_left
  ·exact aP
  refine pure_ (i := 17) (N := some 20) (v := ?_) (a' := ?_) #[tt, tt, tt, tt, tt, tt, tt, tt, tt, tt, tt, tt, tt, tt, tt, tt, tt, tt, ff, ff, ff, ff, ff, ff, ff] rfl rfl (any_of HT_.out (by kernel_rfl)) (fun _ _ _ h => h) (Or.inl ⟨by rfl, ?_⟩) ?_ ?_
  rotate_left
  ·intro w'
   go_simp
   with_reducible rfl
  rotate_left
  ·exact aP
  refine pure_ (i := 18) (N := some 21) (v := ?_) (a' := ?_) #[tt, tt, tt, tt, tt, tt, tt, tt, tt, tt, tt, tt, tt, tt, tt, tt, tt, tt, tt, ff, ff, ff, ff, ff, ff] rfl rfl (any_of HT_.out (by kernel_rfl)) (fun _ _ _ h => h) (Or.inl ⟨by rfl, ?_⟩) ?_ ?_
  rotate_left
  ·intro w'
   go_simp
   with_reducible rfl
  rotate_left
  ·exact aP
  refine pure_ (i := 19) (N := some 22) (v := undef) (a' := ?_) #[tt, tt, tt, tt, tt, tt, tt, tt, tt, tt, tt, tt, tt, tt, tt, tt, tt, tt, tt, tt, ff, ff, ff, ff, ff] rfl rfl (any_of HT_.out (by kernel_rfl)) (fun _ _ _ h => h) (Or.inr ⟨by rfl, rfl⟩) ?_ ?_
  rotate_left
  ·exact aP
  refine pure_ (i := 20) (N := some 23) (v := undef) (a' := ?_) #[tt, tt, tt, tt, tt, tt, tt, tt, tt, tt, tt, tt, tt, tt, tt, tt, tt, tt, tt, tt, tt, ff, ff, ff, ff] rfl rfl (any_of HT_.out (by kernel_rfl)) (fun _ _ _ h => h) (Or.inr ⟨by rfl, rfl⟩) ?_ ?_
  rotate_left
  ·exact aP
  refine pure_ (i := 21) (N := some 24) (v := undef) (a' := ?_) #[tt, tt, tt, tt, tt, tt, tt, tt, tt, tt, tt, tt, tt, tt, tt, tt, tt, tt, tt, tt, tt, tt, ff, ff, ff] rfl rfl (any_of HT_.out (by kernel_rfl)) (fun _ _ _ h => h) (Or.inr ⟨by rfl, rfl⟩) ?_ ?_
  rotate_left
  ·exact aP
  refine pure_ (i := 22) (N := some 25) (v := ?_) (a' := ?_) #[tt, tt, tt, tt, tt, tt, tt, tt, tt, tt, tt, tt, tt, tt, tt, tt, tt, tt, tt, tt, tt, tt, tt, ff, ff] rfl rfl (any_of HT_.out (by kernel_rfl)) (fun _ _ _ h => h) (Or.inl ⟨by rfl, ?_⟩) ?_ ?_
  rotate_left
  ·intro w'
   go_simp
   with_reducible rfl
  rotate_left
  ·exact aP
  refine pure_ (i := 23) (N := some 26) (v := ?_) (a' := ?_) #[tt, tt, tt, tt, tt, tt, tt, tt, tt, tt, tt, tt, tt, tt, tt, tt, tt, tt, tt, tt, tt, tt, tt, tt, ff] rfl rfl (any_of HT_.out (by kernel_rfl)) (fun _ _ _ h => h) (Or.inl ⟨by rfl, ?_⟩) ?_ ?_
  rotate_left
  ·intro w'
   go_simp
   with_reducible rfl
  rotate_left
  ·exact aP
  refine pure_ (i := 24) (N := some 2) (v := ?_) (a' := ?_) #[tt, tt, tt, tt, tt, tt, tt, tt, tt, tt, tt, tt, tt, tt, tt, tt, tt, tt, tt, tt, tt, tt, tt, tt, tt] rfl rfl (any_of HT_.out (by kernel_rfl)) (fun _ _ _ h => h) (Or.inl ⟨by rfl, ?_⟩) ?_ ?_
  rotate_left
  ·intro w'
   go_simp
   with_reducible rfl
  rotate_left
  ·exact aP
  refine done_ (done_of HT_.out (by kernel_rfl)) ?_
  try go_wp2
  go_ret
  exact ⟨eW, by repeat (first | (with_reducible first | exact HB.out | apply below_alloc | apply pw_below_drewN | apply below_drew1 | refine below_set ?_ GE105.out) | exact HB.out)⟩
 rw [if_pos c6] at H
 have c6b0 : (a0_0 == 1) = true := beq_iff_eq.mpr c6
 have c6b1 : (a0_0 != 1) = false := bne_eq_false_iff_eq.mpr c6
 clear c6
 obtain rfl := Option.some.inj H
 go_enter Tryd.func15, Tryd.ntmps15
 try go_wp2_with (first | ((with_reducible refine gate_dst (N := 1) rfl ?_); refine box_event (by rfl) (N := 1) (by rfl) (cs := #[.int .i64 a0_0, .int .i64 a0_1, .int .u64 a0_2, .string a0_3]) (t := 24) gS ?_; intro gb105 hg w7 hbox hb; have BK105 := as_ (hbox); have GW105 := gw hg bA; have GE105 := gw hg bA; replace HB := as_ (below_step bA hb); clear hb hbox hg))
 replace BK105 := as_ (blk_drew BK105.out)
 replace HB := as_ (below_drew1 HB.out)
 refine start_ (n := 25) (S := fun w' => w'.cell? ⟨gb105, 0, none⟩ = some (.int .i64 a0_0) ∧ w'.cell? ⟨gb105, 1, none⟩ = some (.int .i64 a0_1) ∧ w'.cell? ⟨gb105, 2, none⟩ = some (.int .u64 a0_2) ∧ w'.cell? ⟨gb105, 3, none⟩ = some (.string a0_3)) (ds := []) #[ff, ff, ff, ff, ff, ff, ff, ff, ff, ff, ff, ff, ff, ff, ff, ff, ff, ff, ff, ff, ff, ff, ff, ff, ff] (by kernel_rfl) rfl rfl ⟨(blk_cell BK105.out 0).trans rfl, (blk_cell BK105.out 1).trans rfl, (blk_cell BK105.out 2).trans rfl, (blk_cell BK105.out 3).trans rfl⟩ (fun hHeld => ?_); refine with_tabW col_Right.tab1 col_Right.bits1 (fun HT_ HW_ => ?_)
 generalize w7.drew = w8 at BK105 HB hHeld ⊢
 refine pure_ (i := 0) (N := some 3) (v := ?_) (a' := ?_) #[tt, ff, ff, ff, ff, ff, ff, ff, ff, ff, ff, ff, ff, ff, ff, ff, ff, ff, ff, ff, ff, ff, ff, ff, ff] rfl rfl (any_of HT_.out (by kernel_rfl)) (fun _ _ _ h => h) (Or.inl ⟨by rfl, ?_⟩) ?_ ?_
 rotate_left
 ·intro w'
  go_simp
  with_reducible rfl
 rotate_left
 ·exact aP
 refine take_ (i := 1) (N := some 4) (v := ?_) (a' := ?_) #[tt, tt, ff, ff, ff, ff, ff, ff, ff, ff, ff, ff, ff, ff, ff, ff, ff, ff, ff, ff, ff, ff, ff, ff, ff] rfl rfl (take_ofW HT_.out HW_.out (by kernel_rfl)) (fun _ _ _ h => h) (Or.inl ⟨by rfl, ?_⟩) hHeld ?_ ?_
 rotate_left
 ·rintro w' ⟨s0, s1, s2, s3⟩
  go_simp
  with_reducible rfl
 rotate_left
 ·exact aP
 refine pure_ (i := 2) (N := some 5) (v := ?_) (a' := ?_) #[tt, tt, tt, ff, ff, ff, ff, ff, ff, ff, ff, ff, ff, ff, ff, ff, ff, ff, ff, ff, ff, ff, ff, ff, ff] rfl rfl (any_of HT_.out (by kernel_rfl)) (fun _ _ _ h => h) (Or.inl ⟨by rfl, ?_⟩) ?_ ?_
 rotate_left
 ·intro w'
  go_simp
  with_reducible rfl
 rotate_left
 ·exact aP
 refine pure_ (i := 3) (N := some 6) (v := ?_) (a' := ?_) #[tt, tt, tt, tt, ff, ff, ff, ff, ff, ff, ff, ff, ff, ff, ff, ff, ff, ff, ff, ff, ff, ff, ff, ff, ff] rfl rfl (any_of HT_.out (by kernel_rfl)) (fun _ _ _ h => h) (Or.inl ⟨by rfl, ?_⟩) ?_ ?_
 rotate_left
 ·intro w'
  go_simp
  with_reducible rfl
 rotate_left
 ·exact aP
 refine pure_ (i := 4) (N := some 7) (v := ?_) (a' := ?_) #[tt, tt, tt, tt, tt, ff, ff, ff, ff, ff, ff, ff, ff, ff, ff, ff, ff, ff, ff, ff, ff, ff, ff, ff, ff] rfl rfl (any_of HT_.out (by kernel_rfl)) (fun _ _ _ h => h) (Or.inl ⟨by rfl, ?_⟩) ?_ ?_
 rotate_left
 ·intro w'
  go_simp
  with_reducible rfl
 rotate_left
 ·exact aP
 refine take_ (i := 5) (N := some 8) (v := ?_) (a' := ?_) #[tt, tt, tt, tt, tt, tt, ff, ff, ff, ff, ff, ff, ff, ff, ff, ff, ff, ff, ff, ff, ff, ff, ff, ff, ff] rfl rfl (take_ofW HT_.out HW_.out (by kernel_rfl)) (fun _ _ _ h => h) (Or.inl ⟨by rfl, ?_⟩) hHeld ?_ ?_
 rotate_left
 ·rintro w' ⟨s0, s1, s2, s3⟩
  go_simp
  with_reducible rfl
 rotate_left
 ·exact aP
 refine pure_ (i := 6) (N := some 9) (v := ?_) (a' := ?_) #[tt, tt, tt, tt, tt, tt, tt, ff, ff, ff, ff, ff, ff, ff, ff, ff, ff, ff, ff, ff, ff, ff, ff, ff, ff] rfl rfl (any_of HT_.out (by kernel_rfl)) (fun _ _ _ h => h) (Or.inl ⟨by rfl, ?_⟩) ?_ ?_
 rotate_left
 ·intro w'
  go_simp
  with_reducible rfl
 rotate_left
 ·exact aP
 refine pure_ (i := 7) (N := some 10) (v := ?_) (a' := ?_) #[tt, tt, tt, tt, tt, tt, tt, tt, ff, ff, ff, ff, ff, ff, ff, ff, ff, ff, ff, ff, ff, ff, ff, ff, ff] rfl rfl (any_of HT_.out (by kernel_rfl)) (fun _ _ _ h => h) (Or.inl ⟨by rfl, ?_⟩) ?_ ?_
 rotate_left
 ·intro w'
  go_simp
  with_reducible rfl
 rotate_left
 ·exact aP
 refine pure_ (i := 8) (N := some 11) (v := ?_) (a' := ?_) #[tt, tt, tt, tt, tt, tt, tt, tt, tt, ff, ff, ff, ff, ff, ff, ff, ff, ff, ff, ff, ff, ff, ff, ff, ff] rfl rfl (any_of HT_.out (by kernel_rfl)) (fun _ _ _ h => h) (Or.inl ⟨by rfl, ?_⟩) ?_ ?_
 rotate_left
 ·intro w'
  go_simp
  with_reducible rfl
 rotate_left
 ·exact aP
 refine take_ (i := 9) (N := some 12) (v := ?_) (a' := ?_) #[tt, tt, tt, tt, tt, tt, tt, tt, tt, tt, ff, ff, ff, ff, ff, ff, ff, ff, ff, ff, ff, ff, ff, ff, ff] rfl rfl (take_ofW HT_.out HW_.out (by kernel_rfl)) (fun _ _ _ h => h) (Or.inl ⟨by rfl, ?_⟩) hHeld ?_ ?_
 rotate_left
 ·rintro w' ⟨s0, s1, s2, s3⟩
  go_simp
  with_reducible rfl
 rotate_left
 ·exact aP
 refine take_ (i := 10) (N := some 13) (v := ?_) (a' := ?_) #[tt, tt, tt, tt, tt, tt, tt, tt, tt, tt, tt, ff, ff, ff, ff, ff, ff, ff, ff, ff, ff, ff, ff, ff, ff] rfl rfl (take_ofW HT_.out HW_.out (by kernel_rfl)) (fun _ _ _ h => h) (Or.inl ⟨by rfl, ?_⟩) hHeld ?_ ?_
 rotate_left
 ·rintro w' ⟨s0, s1, s2, s3⟩
  go_simp
  with_reducible rfl
 rotate_left
 ·exact aP
 refine one_ (i := 11) (N := some 14) #[tt, tt, tt, tt, tt, tt, tt, tt, tt, tt, tt, tt, ff, ff, ff, ff, ff, ff, ff, ff, ff, ff, ff, ff, ff] rfl rfl (one_of HT_.out (by kernel_rfl)) (by decide) (fun K hK => ?_)
 refine goes_ Tryd.func35 (by kernel_rfl) rfl #[.agg #[.int .i64 a0_0, .int .i64 a0_1, .int .u64 a0_2, .string a0_3]] (by rfl) rfl rfl aO ?_
 with_reducible refine (col_only.calls k a0_0 a0_1 a0_2 a0_3 t106 t107 t108 t109 _ A4.out).mono ?_
 rintro e w9 ⟨rfl, hb⟩
 refine ⟨_, rfl, ?_⟩
 replace BK105 := bb BK105 hb
 replace HB := as_ (below_step bA hb)
 (try clear hb)
 (try clear hb2)
 (try clear hk)
 (try clear hi)
 refine hK.out _ _ ⟨(blk_cell BK105.out 0).trans rfl, (blk_cell BK105.out 1).trans rfl, (blk_cell BK105.out 2).trans rfl, (blk_cell BK105.out 3).trans rfl⟩ (fun hHeld => ?_)
 clear hK K
 refine norm_ (a' := ?_) ?_ ?_
 rotate_left
 ·show Act.put _ (some 14) _ = _
  simp only [Act.put, List.setIfInBounds_toArray, List.set_cons_zero, List.set_cons_succ, i64_w, i32_w]
  rfl
 refine pure_ (i := 12) (N := some 15) (v := ?_) (a' := ?_) #[tt, tt, tt, tt, tt, tt, tt, tt, tt, tt, tt, tt, tt, ff, ff, ff, ff, ff, ff, ff, ff, ff, ff, ff, ff] rfl rfl (any_of HT_.out (by kernel_rfl)) (fun _ _ _ h => h) (Or.inl ⟨by rfl, ?_⟩) ?_ ?_
 rotate_left
 ·intro w'
  go_simp
  with_reducible rfl
 rotate_left
 ·exact aP
 refine pure_ (i := 13) (N := some 16) (v := ?_) (a' := ?_) #[tt, tt, tt, tt, tt, tt, tt, tt, tt, tt, tt, tt, tt, tt, ff, ff, ff, ff, ff, ff, ff, ff, ff, ff, ff] rfl rfl (any_of HT_.out (by kernel_rfl)) (fun _ _ _ h => h) (Or.inl ⟨by rfl, ?_⟩) ?_ ?_
 rotate_left
 ·intro w'
  go_simp
  with_reducible rfl
 rotate_left
 ·exact aP
 refine pure_ (i := 14) (N := some 17) (v := ?_) (a' := ?_) #[tt, tt, tt, tt, tt, tt, tt, tt, tt, tt, tt, tt, tt, tt, tt, ff, ff, ff, ff, ff, ff, ff, ff, ff, ff] rfl rfl (any_of HT_.out (by kernel_rfl)) (fun _ _ _ h => h) (Or.inl ⟨by rfl, ?_⟩) ?_ ?_
 rotate_left
 ·intro w'
  go_simp
  with_reducible rfl
 rotate_left
 ·exact aP
 refine pure_ (i := 15) (N := some 18) (v := ?_) (a' := ?_) #[tt, tt, tt, tt, tt, tt, tt, tt, tt, tt, tt, tt, tt, tt, tt, tt, ff, ff, ff, ff, ff, ff, ff, ff, ff] rfl rfl (any_of HT_.out (by kernel_rfl)) (fun _ _ _ h => h) (Or.inl ⟨by rfl, ?_⟩) ?_ ?_
 rotate_left
 ·intro w'
  go_simp
  with_reducible rfl
 rotate_left
 ·exact aP
 refine take_ (i := 16) (N := some 19) (v := ?_) (a' := ?_) #[tt, tt, tt, tt, tt, tt, tt, tt, tt, tt, tt, tt, tt, tt, tt, tt, tt, ff, ff, ff, ff, ff, ff, ff, ff] rfl rfl (take_ofW HT_.out HW_.out (by kernel_rfl)) (fun _ _ _ h => h) (Or.inl ⟨by rfl, ?_⟩) hHeld ?_ ?_
 rotate_left
 ·rintro w' ⟨s0, s1, s2, s3⟩
  go_simp
  with_reducible rfl
 rotate_left
 ·exact aP
 refine pure_ (i := 17) (N := some 20) (v := ?_) (a' := ?_) #[tt, tt, tt, tt, tt, tt, tt, tt, tt, tt, tt, tt, tt, tt, tt, tt, tt, tt, ff, ff, ff, ff, ff, ff, ff] rfl rfl (any_of HT_.out (by kernel_rfl)) (fun _ _ _ h => h) (Or.inl ⟨by rfl, ?_⟩) ?_ ?_
 rotate_left
 ·intro w'
  go_simp
  with_reducible rfl
 rotate_left
 ·exact aP
 refine pure_ (i := 18) (N := some 21) (v := ?_) (a' := ?_) #[tt, tt, tt, tt, tt, tt, tt, tt, tt, tt, tt, tt, tt, tt, tt, tt, tt, tt, tt, ff, ff, ff, ff, ff, ff] rfl rfl (any_of HT_.out (by kernel_rfl)) (fun _ _ _ h => h) (Or.inl ⟨by rfl, ?_⟩) ?_ ?_
 rotate_left
 ·intro w'
  go_simp
  with_reducible rfl
 rotate_left
 ·exact aP
 refine pure_ (i := 19) (N := some 22) (v := ?_) (a' := ?_) #[tt, tt, tt, tt, tt, tt, tt, tt, tt, tt, tt, tt, tt, tt, tt, tt, tt, tt, tt, tt, ff, ff, ff, ff, ff] rfl rfl (any_of HT_.out (by kernel_rfl)) (fun _ _ _ h => h) (Or.inl ⟨by rfl, ?_⟩) ?_ ?_
 rotate_left
 ·intro w'
  go_simp
  with_reducible rfl
 rotate_left
 ·exact aP
 refine take_ (i := 20) (N := some 23) (v := ?_) (a' := ?_) #[tt, tt, tt, tt, tt, tt, tt, tt, tt, tt, tt, tt, tt, tt, tt, tt, tt, tt, tt, tt, tt, ff, ff, ff, ff] rfl rfl (take_ofW HT_.out HW_.out (by kernel_rfl)) (fun _ _ _ h => h) (Or.inl ⟨by rfl, ?_⟩) hHeld ?_ ?_
 rotate_left
 ·rintro w' ⟨s0, s1, s2, s3⟩
  go_simp
  with_reducible rfl
 rotate_left
 ·exact aP
 refine pure_ (i := 21) (N := some 24) (v := ?_) (a' := ?_) #[tt, tt, tt, tt, tt, tt, tt, tt, tt, tt, tt, tt, tt, tt, tt, tt, tt, tt, tt, tt, tt, tt, ff, ff, ff] rfl rfl (any_of HT_.out (by kernel_rfl)) (fun _ _ _ h => h) (Or.inl ⟨by rfl, ?_⟩) ?_ ?_
 rotate_left
 ·intro w'
  go_simp
  with_reducible rfl
 rotate_left
 ·exact aP
 refine pure_ (i := 22) (N := some 25) (v := ?_) (a' := ?_) #[tt, tt, tt, tt, tt, tt, tt, tt, tt, tt, tt, tt, tt, tt, tt, tt, tt, tt, tt, tt, tt, tt, tt, ff, ff] rfl rfl (any_of HT_.out (by kernel_rfl)) (fun _ _ _ h => h) (Or.inl ⟨by rfl, ?_⟩) ?_ ?_
 rotate_left
 ·intro w'
  go_simp
  with_reducible rfl
 rotate_left
 ·exact aP
 refine pure_ (i := 23) (N := some 26) (v := ?_) (a' := ?_) #[tt, tt, tt, tt, tt, tt, tt, tt, tt, tt, tt, tt, tt, tt, tt, tt, tt, tt, tt, tt, tt, tt, tt, tt, ff] rfl rfl (any_of HT_.out (by kernel_rfl)) (fun _ _ _ h => h) (Or.inl ⟨by rfl, ?_⟩) ?_ ?_
 rotate_left
 ·intro w'
  go_simp
  with_reducible rfl
 rotate_left
 ·exact aP
 refine pure_ (i := 24) (N := some 2) (v := ?_) (a' := ?_) #[tt, tt, tt, tt, tt, tt, tt, tt, tt, tt, tt, tt, tt, tt, tt, tt, tt, tt, tt, tt, tt, tt, tt, tt, tt] rfl rfl (any_of HT_.out (by kernel_rfl)) (fun _ _ _ h => h) (Or.inl ⟨by rfl, ?_⟩) ?_ ?_
 rotate_left
 ·intro w'
  go_simp
  with_reducible rfl
 rotate_left
 ·exact aP
 refine done_ (done_of HT_.out (by kernel_rfl)) ?_
 try go_wp2
 go_ret
 exact ⟨eW, by repeat (first | (with_reducible first | exact HB.out | apply below_alloc | apply pw_below_drewN | apply below_drew1 | refine below_set ?_ GE105.out) | exact HB.out)⟩
/-! ### col_wide: function 24, by hand -/
def col_wide.b (a : Int) (i : Nat) : Int := (a / 2 ^ (8 * (7 - i))) % 256
def col_wide.cells (a : Int) (j : Nat) : Array Value := #[.int .u8 (if 0 < j then col_wide.b a 0 else 0), .int .u8 (if 1 < j then col_wide.b a 1 else 0), .int .u8 (if 2 < j then col_wide.b a 2 else 0), .int .u8 (if 3 < j then col_wide.b a 3 else 0), .int .u8 (if 4 < j then col_wide.b a 4 else 0), .int .u8 (if 5 < j then col_wide.b a 5 else 0), .int .u8 (if 6 < j then col_wide.b a 6 else 0), .int .u8 (if 7 < j then col_wide.b a 7 else 0)]
theorem col_wide.put (a : Int) (j : Nat) (hj : j < 8) : (col_wide.cells a j).setIfInBounds j (.int .u8 (col_wide.b a j)) = col_wide.cells a (j + 1) := by
 match j, hj with
 | 0, _ | 1, _ | 2, _ | 3, _ | 4, _ | 5, _ | 6, _ | 7, _ => rfl
theorem col_wide.at_ (a : Int) (j : Nat) (hj : j < 8) : (col_wide.cells a j)[j]? = some (.int .u8 0) := by
 match j, hj with
 | 0, _ | 1, _ | 2, _ | 3, _ | 4, _ | 5, _ | 6, _ | 7, _ => rfl
theorem col_wide.ats (a : Int) (j : Nat) (hj : j < 8) : (col_wide.cells a 8)[j]? = some (.int .u8 (col_wide.b a j)) := by
 match j, hj with
 | 0, _ | 1, _ | 2, _ | 3, _ | 4, _ | 5, _ | 6, _ | 7, _ => rfl
def col_wide.f (a0 : Int) : Option (ByteArray) := some (strOfNums ((List.range 8).map (col_wide.b a0)))
theorem wide_index (W : World) (g : Nat) (n : Nat) (h : n < 8) : (Instr.indexAt 67 (.pointer (some ⟨g, 0, none⟩)) (.int .i64 (n : Int))).run Tryd.prog W = .ok (.pointer (some ⟨g, n, none⟩)) W := by
 have hu : Tryd.prog.underlying 67 = some (.array (Tryd.prog.arrayLen 67) (Tryd.prog.elem 67)) := by kernel_rfl
 have hl : Tryd.prog.arrayLen 67 = 8 := by kernel_rfl
 have he : Tryd.prog.elem 67 = 5 := by kernel_rfl
 obtain ⟨i0, hi, hz, hz1, _⟩ := info_parts (show (Tryd.prog.info? 5).map (fun i => (i.zero, i.size, i.bytes)) = some (some (.int .u8 0), 1, 1) by kernel_rfl)
 rw [run_indexAt_array (h := hu), hl, he]
 match n, h with
 | 0, _ | 1, _ | 2, _ | 3, _ | 4, _ | 5, _ | 6, _ | 7, _ => simp [sizeOf, typeInfo, hi, hz1, Result.andThen, Addr.add]
theorem wide_slice (W : World) (g : Nat) : (Instr.sliceAt 67 (.pointer (some ⟨g, 0, none⟩)) none none none).run Tryd.prog W = .ok (.slice (some ⟨g, 0, none⟩) 8 8) W := by
 have hu : Tryd.prog.underlying 67 = some (.array (Tryd.prog.arrayLen 67) (Tryd.prog.elem 67)) := by kernel_rfl
 have hl : Tryd.prog.arrayLen 67 = 8 := by kernel_rfl
 have he : Tryd.prog.elem 67 = 5 := by kernel_rfl
 obtain ⟨i0, hi, hz, hz1, _⟩ := info_parts (show (Tryd.prog.info? 5).map (fun i => (i.zero, i.size, i.bytes)) = some (some (.int .u8 0), 1, 1) by kernel_rfl)
 rw [run_sliceAt_array_all (ht := hu), hl, he]
 simp [sizeOf, typeInfo, hi, hz1, Result.andThen, slicedAt, Addr.add]
theorem wide_string (a : Int) (W : World) (g : Nat) (h : W.heap[g]? = some (.cells (col_wide.cells a 8) 67 (0, 0))) : (convert 49 9 (.slice (some ⟨g, 0, none⟩) 8 8)).run Tryd.prog W = .ok (.string (strOfNums ((List.range 8).map (col_wide.b a)))) W := by
 refine string_of_reads Tryd.underlying49 Tryd.underlying5 Tryd.underlying9 ?_
 refine ⟨by simp, by omega, fun _ => ⟨⟨g, 0, none⟩, rfl, fun j hj => ?_⟩⟩
 have e : (⟨g, 0, none⟩ : Addr).add j = ⟨g, j, none⟩ := by simp [Addr.add] <;> omega
 rw [e, blk_cell h j, col_wide.ats a j hj]
 simp [rd, hj]
set_option maxHeartbeats 4000000 in
set_option maxRecDepth 100000 in
theorem col_wide.calls (a0 : Int) (r : ByteArray) (w : World) (h : col_wide.f a0 = some r) :
  Calls Tryd.prog 24 #[.int .u64 a0] w fun e w' => e = .returned (.string r) ∧ Below w.heap.size w w' := by
 have H := as_ (Option.some.inj h)
 clear h
 have HB := as_ (Below.refl w.heap.size w)
 go_enter Tryd.func24, Tryd.ntmps24
 go_wp2_with (first | ((with_reducible refine gate_dst (N := 3) rfl ?_); refine box_event (by rfl) (N := 3) (by rfl) (cs := #[.int .u8 0, .int .u8 0, .int .u8 0, .int .u8 0, .int .u8 0, .int .u8 0, .int .u8 0, .int .u8 0]) (t := 67) gS ?_; intro gb hg w1 hbox hb; have BK := Aside0.mk hbox; have GE := gw hg bA; replace HB := as_ (below_step bA hb); clear hb hbox hg))
 go_loopg [5] 9 (fun kq v5 w' => ∃ j : Nat, v5 = .int .i64 (j : Int) ∧ Aside0 (j ≤ 8 ∧ kq + j = 9 ∧ w'.heap[gb]? = some (.cells (col_wide.cells a0 j) 67 (0, 0))) ∧ Aside0 (Below w.heap.size w w'))
 case atStart => exact ⟨0, rfl, ⟨by omega, rfl, BK.out⟩, ⟨HB.out⟩⟩
 case round =>
  obtain ⟨j, rfl, HX, HB1⟩ := hrel
  clear HB BK
  have HB := HB1
  clear HB1
  by_cases c : j < 8
  rotate_left
  ·obtain rfl : j = 8 := by have := HX.out.1; omega
   have BK := Aside0.mk HX.out.2.2
   clear HX c
   have hsl := fun W => wide_slice W gb
   have hst := wide_string a0 wr gb BK.out
   go_wp2
   go_ret
   exact ⟨by rw [← H.out]; rfl, by repeat (first | exact HB.out | apply below_alloc | apply pw_below_drewN | apply below_drew1 | refine below_set ?_ GE.out)⟩
 
 
  have hb := HX.out.2.2
  have BK := Aside0.mk hb
  have K := as_ (show gk - 1 + (j + 1) = 9 ∧ gk - 1 < gk by have := HX.out.2.1; omega)
  clear HX
  have C := Aside0.mk c
  have c0b : decide ((j : Int) < 8) = true := decide_eq_true (by omega)
  have hix : ∀ W : World, (Instr.indexAt 67 (.pointer (some ⟨gb, 0, none⟩)) (.int .i64 (j : Int))).run Tryd.prog W = .ok (.pointer (some ⟨gb, j, none⟩)) W := fun W => wide_index W gb j c
  have hc : wr.cell? ⟨gb, j, none⟩ = some (.int .u8 0) := (blk_cell hb j).trans (col_wide.at_ a0 j c)
  have hf := blk_frozen hb j
  have hnx : wrap64 ((j : Int) + 1) = ((j + 1 : Nat) : Int) := by unfold wrap64; omega
  obtain ⟨jt, hjt⟩ : ∃ t : Int, wrap64 (8 * wrap64 (7 - (j : Int))) = t := ⟨_, rfl⟩
  have hjtw : (IntKind.i64.wrap (8 * (wrap64 (7 - (j : Int))))) = jt := (i64_w _).trans hjt
  have hv : jt = ((8 * (7 - j) : Nat) : Int) := by rw [← hjt]; unfold wrap64; omega
  have p0 : 0 ≤ jt := by omega
  have c24b0 := eq_true p0
  have c24b1 : decide (0 ≤ jt) = true := decide_eq_true p0
  obtain ⟨js, hjs⟩ : ∃ t : Int, (a0 / 2 ^ min jt.toNat 64) = t := ⟨_, rfl⟩
  have hjsz : a0 / 2 ^ jt.toNat = js := by rw [← hjs, Nat.min_eq_left (by omega)]
  have EV := as_ (show js % 256 = col_wide.b a0 j by rw [← hjsz, hv]; rfl)
  clear c hb hv p0
  go_wp2
  go_roundg (gk - 1)
  case measure => exact K.out.2
  case rel => exact ⟨j + 1, by first | rfl | (simp; done) | (rw [hnx]) | (simp [hnx]; done), ⟨by have := C.out; omega, K.out.1, by first | (rw [← EV.out] at *; exact blk_put BK.out j _ (EV.out ▸ col_wide.put a0 j C.out)) | exact blk_put BK.out j _ (by rw [EV.out]; exact col_wide.put a0 j C.out)⟩, ⟨by repeat (first | exact HB.out | apply below_alloc | apply pw_below_drewN | apply below_drew1 | refine below_set ?_ GE.out)⟩⟩
/-! ### word_Put: function 26 -/
mutual
def word_Put.j1 : Nat → Int → Int → Option (ByteArray)
 | 0, _, _ => none
 | k + 1, x0, x3 => word_Put.l1 k x0 x3 (([(wrap64 (247 + x3)) % 256] : List Int)) x3 0
def word_Put.l1 : Nat → Int → Int → List Int → Int → Int → Option (ByteArray)
 | 0, _, _, _, _, _ => none
 | k + 1, x0, x3, x4, x55, x56 => if x56 < x55 then (if 0 ≤ (wrap64 (8 * (wrap64 ((wrap64 (x3 - 1)) - x56)))) then (if x4.length < 140737488355328 then (word_Put.l1 k x0 x3 (x4 ++ [(shr .u64 x0 (wrap64 (8 * (wrap64 ((wrap64 (x3 - 1)) - x56))))) % 256]) x55 (wrap64 (x56 + 1))) else (none)) else (none)) else (some (strOfNums x4))
def word_Put.l0 : Nat → Int → Int → Option (ByteArray)
 | 0, _, _ => none
 | k + 1, x0, x3 => if x3 < 8 then (if 0 ≤ (wrap64 (8 * x3)) then (if (shr .u64 x0 (wrap64 (8 * x3))) > 0 then (word_Put.l0 k x0 (wrap64 (x3 + 1))) else (word_Put.j1 k x0 x3)) else (none)) else (word_Put.j1 k x0 x3)
end
def word_Put.f (k : Nat) (a0 : Int) : Option (ByteArray) := if a0 ≤ 240 then (some (strOfNums (([(a0) % 256] : List Int)))) else (if a0 ≤ 2287 then (some (strOfNums (([(IntKind.u64.wrap (241 + ((IntKind.u64.wrap (a0 - 240)) / 256))) % 256, (IntKind.u64.wrap (a0 - 240)) % 256] : List Int)))) else (if a0 ≤ 67823 then (some (strOfNums (([249, ((IntKind.u64.wrap ((IntKind.u64.wrap (a0 - 2287)) - 1)) / 256) % 256, (IntKind.u64.wrap ((IntKind.u64.wrap (a0 - 2287)) - 1)) % 256] : List Int)))) else (word_Put.l0 k a0 3)))
theorem word_Put.mono_l : ∀ k, (∀ y0 y1, LeO (word_Put.j1 k y0 y1) (word_Put.j1 (k + 1) y0 y1)) ∧ (∀ y0 y1 y2 y3 y4, LeO (word_Put.l1 k y0 y1 y2 y3 y4) (word_Put.l1 (k + 1) y0 y1 y2 y3 y4)) ∧ (∀ y0 y1, LeO (word_Put.l0 k y0 y1) (word_Put.l0 (k + 1) y0 y1))
 | 0 => ⟨fun _ _ r h => by simp [word_Put.j1] at h, fun _ _ _ _ _ r h => by simp [word_Put.l1] at h, fun _ _ r h => by simp [word_Put.l0] at h⟩
 | k + 1 => by
  obtain ⟨ih0, ih1, ih2⟩ := word_Put.mono_l k
  refine ⟨?_, ?_, ?_⟩
  ·intro y0 y1
   unfold word_Put.j1
   repeat' first
   | (with_reducible exact ih0 _ _)
   | (with_reducible exact ih1 _ _ _ _ _)
   | (with_reducible exact ih2 _ _)
   | (with_reducible exact LeO.refl _)
   | (with_reducible exact LeO.none _)
   | (with_reducible refine LeO.ite ?_ ?_)
   | (with_reducible refine LeO.bind ?_ (fun _ => ?_))
   | exact ih0 _ _
   | exact ih1 _ _ _ _ _
   | exact ih2 _ _
   | exact LeO.none _
   | refine LeO.ite ?_ ?_
   | refine LeO.bind ?_ (fun _ => ?_)
  ·intro y0 y1 y2 y3 y4
   unfold word_Put.l1
   repeat' first
   | (with_reducible exact ih0 _ _)
   | (with_reducible exact ih1 _ _ _ _ _)
   | (with_reducible exact ih2 _ _)
   | (with_reducible exact LeO.refl _)
   | (with_reducible exact LeO.none _)
   | (with_reducible refine LeO.ite ?_ ?_)
   | (with_reducible refine LeO.bind ?_ (fun _ => ?_))
   | exact ih0 _ _
   | exact ih1 _ _ _ _ _
   | exact ih2 _ _
   | exact LeO.none _
   | refine LeO.ite ?_ ?_
   | refine LeO.bind ?_ (fun _ => ?_)
  ·intro y0 y1
   unfold word_Put.l0
   repeat' first
   | (with_reducible exact ih0 _ _)
   | (with_reducible exact ih1 _ _ _ _ _)
   | (with_reducible exact ih2 _ _)
   | (with_reducible exact LeO.refl _)
   | (with_reducible exact LeO.none _)
   | (with_reducible refine LeO.ite ?_ ?_)
   | (with_reducible refine LeO.bind ?_ (fun _ => ?_))
   | exact ih0 _ _
   | exact ih1 _ _ _ _ _
   | exact ih2 _ _
   | exact LeO.none _
   | refine LeO.ite ?_ ?_
   | refine LeO.bind ?_ (fun _ => ?_)
theorem word_Put.mono : ∀ a0 k, LeO (word_Put.f k a0) (word_Put.f (k + 1) a0) := by
 intro a0 k
 obtain ⟨ih0, ih1, ih2⟩ := word_Put.mono_l k
 unfold word_Put.f
 repeat' first
   | (with_reducible exact ih0 _ _)
   | (with_reducible exact ih1 _ _ _ _ _)
   | (with_reducible exact ih2 _ _)
   | (with_reducible exact LeO.refl _)
   | (with_reducible exact LeO.none _)
   | (with_reducible refine LeO.ite ?_ ?_)
   | (with_reducible refine LeO.bind ?_ (fun _ => ?_))
   | exact ih0 _ _
   | exact ih1 _ _ _ _ _
   | exact ih2 _ _
   | exact LeO.none _
   | refine LeO.ite ?_ ?_
   | refine LeO.bind ?_ (fun _ => ?_)
set_option maxHeartbeats 8000000 in
set_option maxRecDepth 100000 in
theorem word_Put.calls (k : Nat) (a0 : Int) (r : ByteArray) (w : World) (h : word_Put.f k a0 = some r) :
  Calls Tryd.prog 26 #[.int .u64 a0] w fun e w' => e = .returned (.string r) ∧ Below w.heap.size w w' := by
 have HB := as_ (Below.refl w.heap.size w)
 have H : (if a0 ≤ 240 then (some (strOfNums (([(a0) % 256] : List Int)))) else (if a0 ≤ 2287 then (some (strOfNums (([(IntKind.u64.wrap (241 + ((IntKind.u64.wrap (a0 - 240)) / 256))) % 256, (IntKind.u64.wrap (a0 - 240)) % 256] : List Int)))) else (if a0 ≤ 67823 then (some (strOfNums (([249, ((IntKind.u64.wrap ((IntKind.u64.wrap (a0 - 2287)) - 1)) / 256) % 256, (IntKind.u64.wrap ((IntKind.u64.wrap (a0 - 2287)) - 1)) % 256] : List Int)))) else (word_Put.l0 k a0 3)))) = some r := h
 clear h
 by_cases c2 : a0 ≤ 240
 ·rw [if_pos c2] at H
  have c2b0 : decide (a0 ≤ 240) = true := decide_eq_true c2
  clear c2
  obtain ⟨y110, hy110⟩ : ∃ y_ : List Int, y_ = (([(a0) % 256] : List Int)) := ⟨_, rfl⟩
  replace H : (some (strOfNums y110)) = some r := by first | (rw [hy110]; with_reducible exact H) | (have H2_ := (Option.bind_some _ _).symm.trans H; rw [hy110]; with_reducible exact H2_) | (have H2_ := (Option.bind_some _ _).symm.trans H; with_reducible exact H2_) | with_reducible exact H | (rw [hy110]; exact H) | exact H
  have Ny110 := Aside0.mk hy110
  clear hy110
  obtain rfl := Option.some.inj H
  go_enter Tryd.func26, Tryd.ntmps26
  go_wp2_with (first | ((with_reducible refine gate_dst (N := 11) rfl ?_); refine Kd.R_lit (Kd.int .u8) _ 5 ?hg (N := 11) ?hd (xs := ([(a0) % 256] : List Int)) (inner := [.int .u8 ((a0) % 256)]) (ok := fun _ => True) (okp := fun _ => True) ?hr ?hp (fun _ hk => hk) trivial (Below.refl _ _) (Nat.le_refl _) (by simp) ?_; (case hd => rfl); (case hg => rfl); (case hr => first | (go_simp; done) | (go_simp; rfl)); (case hp => exact (Reps.one (show Kd.M (Kd.int .u8) _ _ _ ((a0) % 256) [.int .u8 ((a0) % 256)] from rfl) (Reps.none _ _))); intro v111 w3 ho4 hb hg_ hnew_; clear hg_ hnew_; (first | rw [← Ny110.out] at ho4 | (simp only [Int.reduceToNat] at ho4; rw [← Ny110.out] at ho4)); have HO112 := as_ (Kd.R_lower ho4 (below_size bA)); replace HB := as_ (below_step bA hb); clear hb ho4; have hcv5 := own_string (P := Tryd.prog) Tryd.underlying49 Tryd.underlying5 Tryd.underlying9 (Kd.own_of_R HO112.out)))
  go_ret
  exact ⟨eW, by repeat (first | (with_reducible first | exact HB.out | apply below_alloc | apply pw_below_drewN | apply below_drew1) | exact HB.out)⟩
 rw [if_neg c2] at H
 have c2b0 : decide (a0 ≤ 240) = false := decide_eq_false c2
 clear c2
 by_cases c6 : a0 ≤ 2287
 ·rw [if_pos c6] at H
  have c6b0 : decide (a0 ≤ 2287) = true := decide_eq_true c6
  clear c6
  obtain ⟨y113, hy113⟩ : ∃ y_ : List Int, y_ = (([(IntKind.u64.wrap (241 + ((IntKind.u64.wrap (a0 - 240)) / 256))) % 256, (IntKind.u64.wrap (a0 - 240)) % 256] : List Int)) := ⟨_, rfl⟩
  replace H : (some (strOfNums y113)) = some r := by first | (rw [hy113]; with_reducible exact H) | (have H2_ := (Option.bind_some _ _).symm.trans H; rw [hy113]; with_reducible exact H2_) | (have H2_ := (Option.bind_some _ _).symm.trans H; with_reducible exact H2_) | with_reducible exact H | (rw [hy113]; exact H) | exact H
  have Ny113 := Aside0.mk hy113
  clear hy113
  obtain rfl := Option.some.inj H
  go_enter Tryd.func26, Tryd.ntmps26
  go_wp2_with (first | ((with_reducible refine gate_dst (N := 24) rfl ?_); refine Kd.R_lit (Kd.int .u8) _ 5 ?hg (N := 24) ?hd (xs := ([(IntKind.u64.wrap (241 + ((IntKind.u64.wrap (a0 - 240)) / 256))) % 256, (IntKind.u64.wrap (a0 - 240)) % 256] : List Int)) (inner := [.int .u8 ((IntKind.u64.wrap (241 + ((IntKind.u64.wrap (a0 - 240)) / 256))) % 256), .int .u8 ((IntKind.u64.wrap (a0 - 240)) % 256)]) (ok := fun _ => True) (okp := fun _ => True) ?hr ?hp (fun _ hk => hk) trivial (Below.refl _ _) (Nat.le_refl _) (by simp) ?_; (case hd => rfl); (case hg => rfl); (case hr => first | (go_simp; done) | (go_simp; rfl)); (case hp => exact (Reps.one (show Kd.M (Kd.int .u8) _ _ _ ((IntKind.u64.wrap (241 + ((IntKind.u64.wrap (a0 - 240)) / 256))) % 256) [.int .u8 ((IntKind.u64.wrap (241 + ((IntKind.u64.wrap (a0 - 240)) / 256))) % 256)] from rfl) (Reps.one (show Kd.M (Kd.int .u8) _ _ _ ((IntKind.u64.wrap (a0 - 240)) % 256) [.int .u8 ((IntKind.u64.wrap (a0 - 240)) % 256)] from rfl) (Reps.none _ _)))); intro v114 w7 ho8 hb hg_ hnew_; clear hg_ hnew_; (first | rw [← Ny113.out] at ho8 | (simp only [Int.reduceToNat] at ho8; rw [← Ny113.out] at ho8)); have HO115 := as_ (Kd.R_lower ho8 (below_size bA)); replace HB := as_ (below_step bA hb); clear hb ho8; have hcv9 := own_string (P := Tryd.prog) Tryd.underlying49 Tryd.underlying5 Tryd.underlying9 (Kd.own_of_R HO115.out)))
  go_ret
  exact ⟨eW, by repeat (first | (with_reducible first | exact HB.out | apply below_alloc | apply pw_below_drewN | apply below_drew1) | exact HB.out)⟩
 rw [if_neg c6] at H
 have c6b0 : decide (a0 ≤ 2287) = false := decide_eq_false c6
 clear c6
 by_cases c10 : a0 ≤ 67823
 ·rw [if_pos c10] at H
  have c10b0 : decide (a0 ≤ 67823) = true := decide_eq_true c10
  clear c10
  obtain ⟨y116, hy116⟩ : ∃ y_ : List Int, y_ = (([249, ((IntKind.u64.wrap ((IntKind.u64.wrap (a0 - 2287)) - 1)) / 256) % 256, (IntKind.u64.wrap ((IntKind.u64.wrap (a0 - 2287)) - 1)) % 256] : List Int)) := ⟨_, rfl⟩
  replace H : (some (strOfNums y116)) = some r := by first | (rw [hy116]; with_reducible exact H) | (have H2_ := (Option.bind_some _ _).symm.trans H; rw [hy116]; with_reducible exact H2_) | (have H2_ := (Option.bind_some _ _).symm.trans H; with_reducible exact H2_) | with_reducible exact H | (rw [hy116]; exact H) | exact H
  have Ny116 := Aside0.mk hy116
  clear hy116
  obtain rfl := Option.some.inj H
  go_enter Tryd.func26, Tryd.ntmps26
  go_wp2_with (first | ((with_reducible refine gate_dst (N := 38) rfl ?_); refine Kd.R_lit (Kd.int .u8) _ 5 ?hg (N := 38) ?hd (xs := ([249, ((IntKind.u64.wrap ((IntKind.u64.wrap (a0 - 2287)) - 1)) / 256) % 256, (IntKind.u64.wrap ((IntKind.u64.wrap (a0 - 2287)) - 1)) % 256] : List Int)) (inner := [.int .u8 249, .int .u8 (((IntKind.u64.wrap ((IntKind.u64.wrap (a0 - 2287)) - 1)) / 256) % 256), .int .u8 ((IntKind.u64.wrap ((IntKind.u64.wrap (a0 - 2287)) - 1)) % 256)]) (ok := fun _ => True) (okp := fun _ => True) ?hr ?hp (fun _ hk => hk) trivial (Below.refl _ _) (Nat.le_refl _) (by simp) ?_; (case hd => rfl); (case hg => rfl); (case hr => first | (go_simp; done) | (go_simp; rfl)); (case hp => exact (Reps.one (show Kd.M (Kd.int .u8) _ _ _ 249 [.int .u8 249] from rfl) (Reps.one (show Kd.M (Kd.int .u8) _ _ _ (((IntKind.u64.wrap ((IntKind.u64.wrap (a0 - 2287)) - 1)) / 256) % 256) [.int .u8 (((IntKind.u64.wrap ((IntKind.u64.wrap (a0 - 2287)) - 1)) / 256) % 256)] from rfl) (Reps.one (show Kd.M (Kd.int .u8) _ _ _ ((IntKind.u64.wrap ((IntKind.u64.wrap (a0 - 2287)) - 1)) % 256) [.int .u8 ((IntKind.u64.wrap ((IntKind.u64.wrap (a0 - 2287)) - 1)) % 256)] from rfl) (Reps.none _ _))))); intro v117 w11 ho12 hb hg_ hnew_; clear hg_ hnew_; (first | rw [← Ny116.out] at ho12 | (simp only [Int.reduceToNat] at ho12; rw [← Ny116.out] at ho12)); have HO118 := as_ (Kd.R_lower ho12 (below_size bA)); replace HB := as_ (below_step bA hb); clear hb ho12; have hcv13 := own_string (P := Tryd.prog) Tryd.underlying49 Tryd.underlying5 Tryd.underlying9 (Kd.own_of_R HO118.out)))
  go_ret
  exact ⟨eW, by repeat (first | (with_reducible first | exact HB.out | apply below_alloc | apply pw_below_drewN | apply below_drew1) | exact HB.out)⟩
 rw [if_neg c10] at H
 have c10b0 : decide (a0 ≤ 67823) = false := decide_eq_false c10
 clear c10
 have HC14 := Aside0.mk H
 clear H
 go_enter Tryd.func26, Tryd.ntmps26
 go_upto_block 1 with (fail)
 go_cut [3] (fun v3 wc => ∃ (kq : Nat) (x3_13 : Int), v3 = .int .i64 x3_13 ∧ Aside0 (word_Put.j1 kq a0 x3_13 = some r) ∧ Aside0 (kq ≤ k) ∧ Aside0 (Below w.heap.size w wc))
 case first =>
  have H := HC14.out
  clear HC14
  have H' := Aside0.mk H
  clear H
  go_wp2
  go_loopg [3] k (fun kq v3 w' => ∃ (x3_1 : Int), v3 = .int .i64 x3_1 ∧ Aside0 (word_Put.l0 kq a0 x3_1 = some r) ∧ Aside0 (kq ≤ k) ∧ Aside0 (Below w.heap.size w w'))
  case atStart => exact ⟨(3), (by first | rfl | (simp; done) | (simp [*]; done)), H', ⟨Nat.le_refl _⟩, ⟨by repeat (first | (with_reducible first | exact HB.out | apply below_alloc | apply pw_below_drewN | apply below_drew1) | exact HB.out)⟩⟩
  case round =>
   clear H'
   try clear c1
   try clear hcv1
   try clear c2
   try clear c2b0
   try clear p2
   try clear hcv5
   try clear c6
   try clear c6b0
   try clear hcv9
   try clear c10
   try clear c10b0
   try clear hcv13
   obtain ⟨x3_1, rfl, HA, HK1, HB⟩ := hrel
   cases gk with
   | zero => exact absurd HA.out (by simp [word_Put.l0])
   | succ k1 =>
    have H := HA.out
    clear HA
    simp only [word_Put.l0] at H
    by_cases c15 : x3_1 < 8
    rotate_left
    ·rw [if_neg c15] at H
     have c15b0 : decide (x3_1 < 8) = false := decide_eq_false c15
     clear c15
     (first | rw [c15b0] | (simp only [i64_w, i32_w]; rw [c15b0]) | rw [c15b1] | skip)
     have H' := Aside0.mk H
     clear H
     go_wp2
     go_meet
     case rel => exact ⟨_, (x3_1), (by first | rfl | (simp; done) | (simp [*]; done)), H', ⟨by have := HK1.out; first | omega | exact Nat.le_refl _⟩, ⟨by repeat (first | (with_reducible first | exact HB.out | apply below_alloc | apply pw_below_drewN | apply below_drew1) | exact HB.out)⟩⟩
    rw [if_pos c15] at H
    have c15b0 : decide (x3_1 < 8) = true := decide_eq_true c15
    clear c15
    (first | rw [c15b0] | (simp only [i64_w, i32_w]; rw [c15b0]) | rw [c15b1] | skip)
    obtain ⟨ji16, hji16⟩ : ∃ j_ : Int, (wrap64 (8 * x3_1)) = j_ := ⟨_, rfl⟩
    replace H : (if 0 ≤ (ji16) then (if (shr .u64 a0 (ji16)) > 0 then (word_Put.l0 k1 a0 (wrap64 (x3_1 + 1))) else (word_Put.j1 k1 a0 x3_1)) else (none)) = some r := by first | (rw [hji16] at H; exact H) | (simp only [hji16] at H ⊢; exact H)
    have hji16w : (IntKind.i64.wrap (8 * x3_1)) = ji16 := (i64_w _).trans hji16
    by_cases c17 : 0 ≤ (ji16)
    rotate_left
    ·rw [if_neg c17] at H
     exact absurd H (by simp)
    rw [if_pos c17] at H
    have c17b0 := eq_true c17
    have c17b1 : decide (0 ≤ (ji16)) = true := decide_eq_true c17
    clear c17
    obtain ⟨ji18, hji18⟩ : ∃ j_ : Int, (shr .u64 a0 (ji16)) = j_ := ⟨_, rfl⟩
    replace H : (if (ji18) > 0 then (word_Put.l0 k1 a0 (wrap64 (x3_1 + 1))) else (word_Put.j1 k1 a0 x3_1)) = some r := by first | (rw [hji18] at H; exact H) | (simp only [hji18] at H ⊢; exact H)
    have hji18_ : (a0 / 2 ^ min (ji16).toNat 64) = ji18 := hji18
    have hji18z : (ji16) ≤ 64 → (a0 / 2 ^ (ji16).toNat) = ji18 := shr_small hji18
    by_cases c19 : (ji18) > 0
    rotate_left
    ·rw [if_neg c19] at H
     have c19b0 : decide (0 < (ji18)) = false := decide_eq_false c19
     clear c19
     have H' := Aside0.mk H
     clear H
     go_wp2
     go_meet
     case rel => exact ⟨_, (x3_1), (by first | rfl | (simp; done) | (simp [*]; done)), H', ⟨by have := HK1.out; first | omega | exact Nat.le_refl _⟩, ⟨by repeat (first | (with_reducible first | exact HB.out | apply below_alloc | apply pw_below_drewN | apply below_drew1) | exact HB.out)⟩⟩
    rw [if_pos c19] at H
    have c19b0 : decide (0 < (ji18)) = true := decide_eq_true c19
    clear c19
    have H' := Aside0.mk H
    clear H
    go_wp2
    go_roundg k1
    case measure => have := HK1.out; omega
    case rel => exact ⟨(wrap64 (x3_1 + 1)), (by first | rfl | (simp; done) | (simp [*]; done)), H', ⟨by have := HK1.out; omega⟩, ⟨by repeat (first | (with_reducible first | exact HB.out | apply below_alloc | apply pw_below_drewN | apply below_drew1) | exact HB.out)⟩⟩
 case rest =>
  clear HC14
  try clear c1
  try clear hcv1
  try clear c2
  try clear c2b0
  try clear p2
  try clear hcv5
  try clear c6
  try clear c6b0
  try clear p6
  try clear hcv9
  try clear c10
  try clear c10b0
  try clear hcv13
  try clear c15
  try clear c15b0
  try clear c15b1
  try clear c17
  try clear c17b0
  try clear c17b1
  try clear c19
  try clear c19b0
  try clear p2
  obtain ⟨kq, x3_13, rfl, HA, HJ13, HB⟩ := hcut
  cases kq with
  | zero => exact absurd HA.out (by simp [word_Put.j1])
  | succ kj13 =>
   have H := HA.out
   clear HA
   simp only [word_Put.j1] at H
   obtain ⟨y119, hy119⟩ : ∃ y_ : List Int, y_ = (([(wrap64 (247 + x3_13)) % 256] : List Int)) := ⟨_, rfl⟩
   replace H : (word_Put.l1 kj13 a0 x3_13 y119 x3_13 0) = some r := by first | (rw [hy119]; with_reducible exact H) | (have H2_ := (Option.bind_some _ _).symm.trans H; rw [hy119]; with_reducible exact H2_) | (have H2_ := (Option.bind_some _ _).symm.trans H; with_reducible exact H2_) | with_reducible exact H | (rw [hy119]; exact H) | exact H
   have Ny119 := Aside0.mk hy119
   clear hy119
   have H' := Aside0.mk H
   clear H
   go_wp2_with (first | ((with_reducible refine gate_dst (N := 54) rfl ?_); refine Kd.R_lit (Kd.int .u8) _ 5 ?hg (N := 54) ?hd (xs := ([(wrap64 (247 + x3_13)) % 256] : List Int)) (inner := [.int .u8 ((wrap64 (247 + x3_13)) % 256)]) (ok := fun _ => True) (okp := fun _ => True) ?hr ?hp (fun _ hk => hk) trivial (Below.refl _ _) (Nat.le_refl _) (by simp) ?_; (case hd => rfl); (case hg => rfl); (case hr => first | (go_simp; done) | (go_simp; rfl)); (case hp => exact (Reps.one (show Kd.M (Kd.int .u8) _ _ _ ((wrap64 (247 + x3_13)) % 256) [.int .u8 ((wrap64 (247 + x3_13)) % 256)] from rfl) (Reps.none _ _))); intro v120 w20 ho21 hb hg_ hnew_; clear hg_ hnew_; (first | rw [← Ny119.out] at ho21 | (simp only [Int.reduceToNat] at ho21; rw [← Ny119.out] at ho21)); have HO121 := as_ (Kd.R_lower ho21 (below_size bA)); replace HB := as_ (below_step bA hb); clear hb ho21))
   go_loopg [4, 56] kj13 (fun kq v4 v56 w' => ∃ (x4_2 : List Int) (x56_2 : Int), v56 = .int .i64 x56_2 ∧ Aside0 (word_Put.l1 kq a0 x3_13 x4_2 x3_13 x56_2 = some r) ∧ Aside0 (kq ≤ kj13) ∧ Aside0 (Kd.R (Kd.int .u8) 5 w' w.heap.size (fun _ => True) v4 x4_2) ∧ Aside0 (Below w.heap.size w w'))
   case atStart => exact ⟨(y119), (0), (by first | rfl | (simp; done) | (simp [*]; done)), H', ⟨Nat.le_refl _⟩, ⟨by (with_reducible repeat (first | apply Kd.R_alloc | apply Kd.R_drewN | apply Kd.R_drew)); exact HO121.out⟩, ⟨by repeat (first | (with_reducible first | exact HB.out | apply below_alloc | apply pw_below_drewN | apply below_drew1) | exact HB.out)⟩⟩
   case round =>
    clear H'
    try clear c1
    try clear hcv1
    try clear c2
    try clear c2b0
    try clear p2
    try clear hcv5
    try clear c6
    try clear c6b0
    try clear p6
    try clear hcv9
    try clear c10
    try clear c10b0
    try clear hcv13
    try clear c15
    try clear c15b0
    try clear c15b1
    try clear c17
    try clear c17b0
    try clear c17b1
    try clear c19
    try clear c19b0
    try clear p2
    try clear p6
    obtain ⟨x4_2, x56_2, rfl, HA, HK2, HO_4, HB⟩ := hrel
    cases gk with
    | zero => exact absurd HA.out (by simp [word_Put.l1])
    | succ k2 =>
     have H := HA.out
     clear HA
     simp only [word_Put.l1] at H
     by_cases c22 : x56_2 < x3_13
     rotate_left
     ·rw [if_neg c22] at H
      have c22b0 : decide (x56_2 < x3_13) = false := decide_eq_false c22
      clear c22
      obtain rfl := Option.some.inj H
      have hcv28 := own_string (P := Tryd.prog) Tryd.underlying49 Tryd.underlying5 Tryd.underlying9 (Kd.own_of_R HO_4.out)
      go_wp2
      go_ret
      exact ⟨eW, by repeat (first | (with_reducible first | exact HB.out | apply below_alloc | apply pw_below_drewN | apply below_drew1) | exact HB.out)⟩
 
     rw [if_pos c22] at H
     have c22b0 : decide (x56_2 < x3_13) = true := decide_eq_true c22
     clear c22
     obtain ⟨ji23, hji23⟩ : ∃ j_ : Int, (wrap64 (8 * (wrap64 ((wrap64 (x3_13 - 1)) - x56_2)))) = j_ := ⟨_, rfl⟩
     replace H : (if 0 ≤ (ji23) then (if x4_2.length < 140737488355328 then (word_Put.l1 k2 a0 x3_13 (x4_2 ++ [(shr .u64 a0 (ji23)) % 256]) x3_13 (wrap64 (x56_2 + 1))) else (none)) else (none)) = some r := by first | (rw [hji23] at H; exact H) | (simp only [hji23] at H ⊢; exact H)
     have hji23w : (IntKind.i64.wrap (8 * (wrap64 ((wrap64 (x3_13 - 1)) - x56_2)))) = ji23 := (i64_w _).trans hji23
     by_cases c24 : 0 ≤ (ji23)
     rotate_left
     ·rw [if_neg c24] at H
      exact absurd H (by simp)
     rw [if_pos c24] at H
     have c24b0 := eq_true c24
     have c24b1 : decide (0 ≤ (ji23)) = true := decide_eq_true c24
     clear c24
     obtain ⟨ji25, hji25⟩ : ∃ j_ : Int, (shr .u64 a0 (ji23)) = j_ := ⟨_, rfl⟩
     replace H : (if x4_2.length < 140737488355328 then (word_Put.l1 k2 a0 x3_13 (x4_2 ++ [(ji25) % 256]) x3_13 (wrap64 (x56_2 + 1))) else (none)) = some r := by first | (rw [hji25] at H; exact H) | (simp only [hji25] at H ⊢; exact H)
     have hji25_ : (a0 / 2 ^ min (ji23).toNat 64) = ji25 := hji25
     have hji25z : (ji23) ≤ 64 → (a0 / 2 ^ (ji23).toNat) = ji25 := shr_small hji25
     by_cases c26 : x4_2.length < 140737488355328
     rotate_left
     ·rw [if_neg c26] at H
      exact absurd H (by simp)
     rw [if_pos c26] at H
     have LMc26 := Aside0.mk c26
     clear c26
     obtain ⟨y122, hy122⟩ : ∃ y_ : List Int, y_ = (x4_2 ++ [(ji25) % 256]) := ⟨_, rfl⟩
     replace H : (word_Put.l1 k2 a0 x3_13 y122 x3_13 (wrap64 (x56_2 + 1))) = some r := by first | (rw [hy122]; with_reducible exact H) | (have H2_ := (Option.bind_some _ _).symm.trans H; rw [hy122]; with_reducible exact H2_) | (have H2_ := (Option.bind_some _ _).symm.trans H; with_reducible exact H2_) | with_reducible exact H | (rw [hy122]; exact H) | exact H
     have Ny122 := Aside0.mk hy122
     clear hy122
     have H' := Aside0.mk H
     clear H
     go_wp2_with (first | ((with_reducible refine gate_builtin (b := .append) (xs := #[.tmp 59, .tmp 68]) rfl ?_); at_builtin; refine Kd.R_append (Kd.int .u8) (w0 := w) w.heap.size rfl (.tmp 59) (.tmp 68) 49 5 (.int .u8 0) 1 rfl Tryd.underlying49 info5 rfl (by decide) (by omega) u4 x4_2 ((ji25) % 256) [.int .u8 ((ji25) % 256)] (fun _ => True) (fun _ => False) rfl rfl ?aP (fun _ hk => hk.elim) ?aF ?aO ?aB ?aS ?aL ?_; (case aP => exact rfl); (case aB => exact bA); (case aF => exact (fun _ _ => trivial)); (case aO => exact (by (with_reducible repeat (first | apply Kd.R_alloc | apply Kd.R_drewN | apply Kd.R_drew)); exact HO_4.out)); (case aS => exact (below_size bA)); (case aL => have := LMc26.out; omega); intro v123 w27 ho hb hg hat; rw [← Ny122.out] at ho; have HO124 := as_ (ho); replace HB := as_ (hb); clear HO_4; clear ho hb hg hat))
     go_roundg k2
     case measure => have := HJ13.out; have := HK2.out; omega
     case rel => exact ⟨(y122), (wrap64 (x56_2 + 1)), (by first | rfl | (simp; done) | (simp [*]; done)), H', ⟨by have := HJ13.out; have := HK2.out; omega⟩, ⟨by (with_reducible repeat (first | apply Kd.R_alloc | apply Kd.R_drewN | apply Kd.R_drew)); exact HO124.out⟩, ⟨by repeat (first | (with_reducible first | exact HB.out | apply below_alloc | apply pw_below_drewN | apply below_drew1) | exact HB.out)⟩⟩
/-! ### strings_ReplaceAll: function 28, by hand -/
def strings_ReplaceAll.f (a0 : ByteArray) (a1 : ByteArray) (a2 : ByteArray) : Option (ByteArray) := if a1.toList = ([0] : List UInt8) then (if a2.toList = ([0, 255] : List UInt8) then (if a0.size ≤ 1099511627776 then (some (⟨(Go.Proofs.YtjfgeppfkhaliaaDoorR.escL a0.data.toList).toArray⟩ : ByteArray)) else none) else none) else none
theorem strings_ReplaceAll.calls (a0 : ByteArray) (a1 : ByteArray) (a2 : ByteArray) (r : ByteArray) (w : World) (h : strings_ReplaceAll.f a0 a1 a2 = some r) :
  Calls Tryd.prog 28 #[.string a0, .string a1, .string a2] w fun e w' => e = .returned (.string r) ∧ Below w.heap.size w w' := by
 unfold strings_ReplaceAll.f at h
 by_cases h1 : a1.toList = ([0] : List UInt8)
 rotate_left
 ·rw [if_neg h1] at h; cases h
 rw [if_pos h1] at h
 by_cases h2 : a2.toList = ([0, 255] : List UInt8)
 rotate_left
 ·rw [if_neg h2] at h; cases h
 rw [if_pos h2] at h
 by_cases h3 : a0.size ≤ 1099511627776
 rotate_left
 ·rw [if_neg h3] at h; cases h
 rw [if_pos h3] at h
 obtain rfl := Option.some.inj h
 obtain rfl : a1 = (⟨#[0]⟩ : ByteArray) := ByteArray.ext (Array.ext' ((ByteArray.toList_eq a1).symm.trans h1))
 obtain rfl : a2 = (⟨#[0, 255]⟩ : ByteArray) := ByteArray.ext (Array.ext' ((ByteArray.toList_eq a2).symm.trans h2))
 have hm := Lib.countB_mul_le (⟨#[0]⟩ : ByteArray) (Nat.le_refl 1) a0.size a0 (Nat.le_refl _)
 have s1 : (⟨#[0]⟩ : ByteArray).size = 1 := rfl
 have s2 : (⟨#[0, 255]⟩ : ByteArray).size = 2 := rfl
 rw [s1] at hm
 refine (Go.Proofs.YtjfgeppfkhaliaaDoorR.Repl.all Tryd.lays155 Tryd.Builder_Extra_155 a0 0 ⟨#[0]⟩ ⟨#[0, 255]⟩ rfl (by decide) w (by rw [s2]; omega)).mono fun e w' ⟨he, hw⟩ => ⟨?_, hw⟩
 rw [he, ← Go.Proofs.YtjfgeppfkhaliaaDoorR.escL_replace]


/-! ### col_Put: function 10, by hand -/
def col_Put.app (a : ByteArray) (b : ByteArray) : Option (ByteArray) := if a.size + b.size ≤ 9223372036854775807 then some (a ++ b) else none
def col_Put.f (k : Nat) (a0_0 : Int) (a0_1 : Int) (a0_2 : Int) (a0_3 : ByteArray) : Option (ByteArray × Int) :=
 (col_Right.f k a0_0 a0_1 a0_2 a0_3).bind fun t => if t = true then (
  if a0_0 = 0 then some (strOfNums [16], 0)
  else if a0_0 = 1 then some (strOfNums [(wrap64 (32 + wrap64 a0_2)) % 256], 0)
  else if a0_0 = 2 then ((col_wide.f (Go.bits .xor .u64 (IntKind.u64.wrap a0_1) 9223372036854775808)).bind fun x => (col_Put.app (strOfNums [48]) x).bind fun y => some (y, 0))
  else if a0_0 = 3 then ((word_Put.f k a0_2).bind fun x => (col_Put.app (strOfNums [64]) x).bind fun y => some (y, 0))
  else if a0_0 = 4 then ((strings_ReplaceAll.f a0_3 (⟨#[0]⟩ : ByteArray) (⟨#[0, 255]⟩ : ByteArray)).bind fun x => (col_Put.app (strOfNums [80]) x).bind fun y => (col_Put.app y (⟨#[0, 1]⟩ : ByteArray)).bind fun z => some (z, 0))
  else none) else some ((⟨#[]⟩ : ByteArray), 3)
theorem col_Put.mono : ∀ a0 a1 a2 a3 k, LeO (col_Put.f k a0 a1 a2 a3) (col_Put.f (k + 1) a0 a1 a2 a3) := by
 intro a0 a1 a2 a3 k
 unfold col_Put.f
 refine LeO.bind (col_Right.mono _ _ _ _ _) (fun _ => LeO.ite (LeO.ite (LeO.refl _) (LeO.ite (LeO.refl _) (LeO.ite (LeO.refl _) (LeO.ite (LeO.bind (word_Put.mono _ _) (fun _ => LeO.refl _)) (LeO.refl _))))) (LeO.refl _))
theorem col_first.calls (n : Int) (w : World) : Calls Tryd.prog 20 #[.int .i64 n] w fun e w' => e = .returned (.string (strOfNums [n % 256])) ∧ Below w.heap.size w w' := by
 have HB := as_ (Below.refl w.heap.size w)
 obtain ⟨y110, hy110⟩ : ∃ y_ : List Int, y_ = (([(n) % 256] : List Int)) := ⟨_, rfl⟩
 rw [← hy110]
 have Ny110 := Aside0.mk hy110
 clear hy110
 go_enter Tryd.func20, Tryd.ntmps20
 go_wp2_with (first | ((with_reducible refine gate_dst (N := 5) rfl ?_); refine Kd.R_lit (Kd.int .u8) _ 5 ?hg (N := 5) ?hd (xs := ([(n) % 256] : List Int)) (inner := [.int .u8 ((n) % 256)]) (ok := fun _ => True) (okp := fun _ => True) ?hr ?hp (fun _ hk => hk) trivial (Below.refl _ _) (Nat.le_refl _) (by simp) ?_; (case hd => rfl); (case hg => rfl); (case hr => first | (go_simp; done) | (go_simp; rfl)); (case hp => exact (Reps.one (show Kd.M (Kd.int .u8) _ _ _ ((n) % 256) [.int .u8 ((n) % 256)] from rfl) (Reps.none _ _))); intro v111 w3 ho4 hb hg_ hnew_; clear hg_ hnew_; (first | rw [← Ny110.out] at ho4 | (simp only [Int.reduceToNat] at ho4; rw [← Ny110.out] at ho4)); have HO112 := as_ (Kd.R_lower ho4 (below_size bA)); replace HB := as_ (below_step bA hb); clear hb ho4; have hcv5 := own_string (P := Tryd.prog) Tryd.underlying49 Tryd.underlying5 Tryd.underlying9 (Kd.own_of_R HO112.out)))
 go_ret
 exact ⟨eW, by repeat (first | (with_reducible first | exact HB.out | apply below_alloc | apply pw_below_drewN | apply below_drew1) | exact HB.out)⟩
theorem col_put0.calls (B4 B5 : Nat) (n : Int) (w : World) (hc4 : w.cell? ⟨B4, 0, none⟩ = some (.func (.func 20) #[] #[])) (hc5 : w.cell? ⟨B5, 0, none⟩ = some (.int .i64 n)) :
  Calls Tryd.prog 21 #[.pointer (some ⟨B4, 0, none⟩), .pointer (some ⟨B5, 0, none⟩)] w fun e w' => e = .returned (.string (strOfNums [n % 256])) ∧ Below w.heap.size w w' := by
 go_enter Tryd.func21, Tryd.ntmps21
 go_wp2_with (go_at_call 20; (with_reducible refine (col_first.calls n _).mono ?_); rintro e w1 ⟨rfl, hb⟩)
 go_ret
 exact ⟨rfl, by repeat (first | exact below_step (Below.refl _ _) hb | exact hb | exact below_step (pw_below_drewN (Below.refl _ _) _) hb | apply pw_below_drewN | apply below_drew1)⟩
theorem col_put1.calls (B4 B5 B1 : Nat) (n u : Int) (w : World) (hc4 : w.cell? ⟨B4, 0, none⟩ = some (.func (.func 20) #[] #[])) (hc5 : w.cell? ⟨B5, 0, none⟩ = some (.int .i64 n)) (hcu : w.cell? ⟨B1, 2, none⟩ = some (.int .u64 u)) :
  Calls Tryd.prog 22 #[.pointer (some ⟨B4, 0, none⟩), .pointer (some ⟨B5, 0, none⟩), .pointer (some ⟨B1, 0, none⟩)] w fun e w' => e = .returned (.string (strOfNums [(wrap64 (n + wrap64 u)) % 256])) ∧ Below w.heap.size w w' := by
 go_enter Tryd.func22, Tryd.ntmps22
 go_wp2_with (go_at_call 20; (with_reducible refine (col_first.calls (wrap64 (n + wrap64 u)) _).mono ?_); rintro e w1 ⟨rfl, hb⟩)
 go_ret
 exact ⟨rfl, by repeat (first | exact below_step (Below.refl _ _) hb | exact hb | exact below_step (pw_below_drewN (Below.refl _ _) _) hb | apply pw_below_drewN | apply below_drew1)⟩
set_option maxHeartbeats 4000000 in
set_option maxRecDepth 100000 in
theorem col_put2.calls (B4 B5 B1 : Nat) (n : Int) (i : Int) (x : ByteArray) (w : World) (hc4 : w.cell? ⟨B4, 0, none⟩ = some (.func (.func 20) #[] #[])) (hc5 : w.cell? ⟨B5, 0, none⟩ = some (.int .i64 n)) (hcu : w.cell? ⟨B1, 1, none⟩ = some (.int .i64 i)) (h4 : B4 < w.heap.size) (h5 : B5 < w.heap.size) (h1 : B1 < w.heap.size) (hx : col_wide.f (Go.bits .xor .u64 (IntKind.u64.wrap i) 9223372036854775808) = some x) (hz : 1 + x.size ≤ 9223372036854775807) :
  Calls Tryd.prog 23 #[.pointer (some ⟨B4, 0, none⟩), .pointer (some ⟨B5, 0, none⟩), .pointer (some ⟨B1, 0, none⟩)] w fun e w' => e = .returned (.string (strOfNums [n % 256] ++ x)) ∧ Below w.heap.size w w' := by
 have HKP : Aside0 (∀ W' : World, Below w.heap.size w W' → W'.cell? ⟨B4, 0, none⟩ = some (.func (.func 20) #[] #[]) ∧ W'.cell? ⟨B5, 0, none⟩ = some (.int .i64 n) ∧ W'.cell? ⟨B1, 1, none⟩ = some (.int .i64 i)) := ⟨fun W' hb => ⟨(hb.cell (p := ⟨B4, 0, none⟩) h4).trans hc4, (hb.cell (p := ⟨B5, 0, none⟩) h5).trans hc5, (hb.cell (p := ⟨B1, 1, none⟩) h1).trans hcu⟩⟩
 have A2 := Aside0.mk hx
 clear hx
 have HF0 : ∀ w : World, Calls Tryd.prog 20 #[.int .i64 n] w fun e w' => e = .returned (.string (strOfNums [n % 256])) ∧ Below w.heap.size w w' := fun w => col_first.calls n w
 have hzz : (strOfNums [n % 256]).size + x.size ≤ 9223372036854775807 := hz
 clear hz
 generalize strOfNums [n % 256] = p0 at HF0 hzz ⊢
 have HF := Aside0.mk HF0
 clear HF0
 have hzb1 : decide (p0.size + x.size ≤ 9223372036854775807) = true := decide_eq_true hzz
 have hzb2 : (9223372036854775807 < p0.size + x.size) = False := eq_false (Nat.not_lt.2 hzz)
 clear h1 h4 h5
 go_enter Tryd.func23, Tryd.ntmps23
 go_upto_region 1 with fail
 go_region_held3 (fun W' : World => W'.cell? ⟨B4, 0, none⟩ = some (.func (.func 20) #[] #[]) ∧ W'.cell? ⟨B5, 0, none⟩ = some (.int .i64 n) ∧ W'.cell? ⟨B1, 1, none⟩ = some (.int .i64 i) ∧ Below w.heap.size w W') ((refine ⟨(HKP.out _ ?_).1, (HKP.out _ ?_).2.1, (HKP.out _ ?_).2.2, ?_⟩ <;> repeat (first | assumption | exact Below.refl _ _ | apply pw_below_drewN | apply below_drew1))) (first | ((try go_simp); go_at_call 20; (with_reducible refine (HF.out _).mono ?_); rintro e w31 ⟨rfl, hb⟩; have HB31 : Below w.heap.size w w31 := below_step (by repeat (first | assumption | exact Below.refl _ _ | apply pw_below_drewN | apply below_drew1)) hb) | ((try go_simp); go_at_call 24; (with_reducible refine (col_wide.calls _ x _ A2.out).mono ?_); rintro e w31 ⟨rfl, hb⟩; have HB31 : Below w.heap.size w w31 := below_step (by repeat (first | assumption | exact Below.refl _ _ | apply pw_below_drewN | apply below_drew1)) hb))
 go_wp2
 go_ret
 exact ⟨rfl, by repeat (first | assumption | exact Below.refl _ _ | apply pw_below_drewN | apply below_drew1)⟩
set_option maxHeartbeats 4000000 in
set_option maxRecDepth 100000 in
theorem col_put3.calls (B4 B5 B1 : Nat) (n : Int) (k : Nat) (i : Int) (x : ByteArray) (w : World) (hc4 : w.cell? ⟨B4, 0, none⟩ = some (.func (.func 20) #[] #[])) (hc5 : w.cell? ⟨B5, 0, none⟩ = some (.int .i64 n)) (hcu : w.cell? ⟨B1, 2, none⟩ = some (.int .u64 i)) (h4 : B4 < w.heap.size) (h5 : B5 < w.heap.size) (h1 : B1 < w.heap.size) (hx : word_Put.f k i = some x) (hz : 1 + x.size ≤ 9223372036854775807) :
  Calls Tryd.prog 25 #[.pointer (some ⟨B4, 0, none⟩), .pointer (some ⟨B5, 0, none⟩), .pointer (some ⟨B1, 0, none⟩)] w fun e w' => e = .returned (.string (strOfNums [n % 256] ++ x)) ∧ Below w.heap.size w w' := by
 have HKP : Aside0 (∀ W' : World, Below w.heap.size w W' → W'.cell? ⟨B4, 0, none⟩ = some (.func (.func 20) #[] #[]) ∧ W'.cell? ⟨B5, 0, none⟩ = some (.int .i64 n) ∧ W'.cell? ⟨B1, 2, none⟩ = some (.int .u64 i)) := ⟨fun W' hb => ⟨(hb.cell (p := ⟨B4, 0, none⟩) h4).trans hc4, (hb.cell (p := ⟨B5, 0, none⟩) h5).trans hc5, (hb.cell (p := ⟨B1, 2, none⟩) h1).trans hcu⟩⟩
 have A2 := Aside0.mk hx
 clear hx
 have HF0 : ∀ w : World, Calls Tryd.prog 20 #[.int .i64 n] w fun e w' => e = .returned (.string (strOfNums [n % 256])) ∧ Below w.heap.size w w' := fun w => col_first.calls n w
 have hzz : (strOfNums [n % 256]).size + x.size ≤ 9223372036854775807 := hz
 clear hz
 generalize strOfNums [n % 256] = p0 at HF0 hzz ⊢
 have HF := Aside0.mk HF0
 clear HF0
 have hzb1 : decide (p0.size + x.size ≤ 9223372036854775807) = true := decide_eq_true hzz
 have hzb2 : (9223372036854775807 < p0.size + x.size) = False := eq_false (Nat.not_lt.2 hzz)
 clear h1 h4 h5
 go_enter Tryd.func25, Tryd.ntmps25
 go_upto_region 1 with fail
 go_region_held3 (fun W' : World => W'.cell? ⟨B4, 0, none⟩ = some (.func (.func 20) #[] #[]) ∧ W'.cell? ⟨B5, 0, none⟩ = some (.int .i64 n) ∧ W'.cell? ⟨B1, 2, none⟩ = some (.int .u64 i) ∧ Below w.heap.size w W') ((refine ⟨(HKP.out _ ?_).1, (HKP.out _ ?_).2.1, (HKP.out _ ?_).2.2, ?_⟩ <;> repeat (first | assumption | exact Below.refl _ _ | apply pw_below_drewN | apply below_drew1))) (first | ((try go_simp); go_at_call 20; (with_reducible refine (HF.out _).mono ?_); rintro e w31 ⟨rfl, hb⟩; have HB31 : Below w.heap.size w w31 := below_step (by repeat (first | assumption | exact Below.refl _ _ | apply pw_below_drewN | apply below_drew1)) hb) | ((try go_simp); go_at_call 26; (with_reducible refine (word_Put.calls k i x _ A2.out).mono ?_); rintro e w31 ⟨rfl, hb⟩; have HB31 : Below w.heap.size w w31 := below_step (by repeat (first | assumption | exact Below.refl _ _ | apply pw_below_drewN | apply below_drew1)) hb))
 go_wp2
 go_ret
 exact ⟨rfl, by repeat (first | assumption | exact Below.refl _ _ | apply pw_below_drewN | apply below_drew1)⟩
set_option maxHeartbeats 4000000 in
set_option maxRecDepth 100000 in
theorem col_put4.calls (B4 B5 B1 : Nat) (n : Int) (s x : ByteArray) (w : World) (hc4 : w.cell? ⟨B4, 0, none⟩ = some (.func (.func 20) #[] #[])) (hc5 : w.cell? ⟨B5, 0, none⟩ = some (.int .i64 n)) (hcu : w.cell? ⟨B1, 3, none⟩ = some (.string s)) (h4 : B4 < w.heap.size) (h5 : B5 < w.heap.size) (h1 : B1 < w.heap.size) (hx : strings_ReplaceAll.f s (⟨#[0]⟩ : ByteArray) (⟨#[0, 255]⟩ : ByteArray) = some x) (hz : 1 + x.size ≤ 9223372036854775805) :
  Calls Tryd.prog 27 #[.pointer (some ⟨B4, 0, none⟩), .pointer (some ⟨B5, 0, none⟩), .pointer (some ⟨B1, 0, none⟩)] w fun e w' => e = .returned (.string (strOfNums [n % 256] ++ x ++ (⟨#[0, 1]⟩ : ByteArray))) ∧ Below w.heap.size w w' := by
 have HKP : Aside0 (∀ W' : World, Below w.heap.size w W' → W'.cell? ⟨B4, 0, none⟩ = some (.func (.func 20) #[] #[]) ∧ W'.cell? ⟨B5, 0, none⟩ = some (.int .i64 n) ∧ W'.cell? ⟨B1, 3, none⟩ = some (.string s)) := ⟨fun W' hb => ⟨(hb.cell (p := ⟨B4, 0, none⟩) h4).trans hc4, (hb.cell (p := ⟨B5, 0, none⟩) h5).trans hc5, (hb.cell (p := ⟨B1, 3, none⟩) h1).trans hcu⟩⟩
 have A2 := Aside0.mk hx
 clear hx
 have HF0 : ∀ w : World, Calls Tryd.prog 20 #[.int .i64 n] w fun e w' => e = .returned (.string (strOfNums [n % 256])) ∧ Below w.heap.size w w' := fun w => col_first.calls n w
 have hzz : (strOfNums [n % 256]).size + x.size ≤ 9223372036854775805 := hz
 clear hz
 generalize strOfNums [n % 256] = p0 at HF0 hzz ⊢
 have HF := Aside0.mk HF0
 clear HF0
 have hz1 : p0.size + x.size ≤ 9223372036854775807 := by omega
 have hzb1 : decide (p0.size + x.size ≤ 9223372036854775807) = true := decide_eq_true hz1
 have hzb2 : (9223372036854775807 < p0.size + x.size) = False := eq_false (Nat.not_lt.2 hz1)
 obtain ⟨js, hjs⟩ : ∃ j_ : ByteArray, p0 ++ x = j_ := ⟨_, rfl⟩
 rw [hjs]
 have hz2 : js.size + 2 ≤ 9223372036854775807 := by rw [← hjs, ByteArray.size_append]; omega
 have hz3 : js.size + (⟨#[0, 1]⟩ : ByteArray).size ≤ 9223372036854775807 := hz2
 have hzb3 : decide (js.size + (⟨#[0, 1]⟩ : ByteArray).size ≤ 9223372036854775807) = true := decide_eq_true hz3
 have hzb4 : (9223372036854775807 < js.size + (⟨#[0, 1]⟩ : ByteArray).size) = False := eq_false (Nat.not_lt.2 hz3)
 have hzb5 : decide (js.size + 2 ≤ 9223372036854775807) = true := decide_eq_true hz2
 have hzb6 : (9223372036854775807 < js.size + 2) = False := eq_false (Nat.not_lt.2 hz2)
 clear hzz
 clear h1 h4 h5
 go_enter Tryd.func27, Tryd.ntmps27
 go_upto_region 1 with fail
 go_region_held3 (fun W' : World => W'.cell? ⟨B4, 0, none⟩ = some (.func (.func 20) #[] #[]) ∧ W'.cell? ⟨B5, 0, none⟩ = some (.int .i64 n) ∧ W'.cell? ⟨B1, 3, none⟩ = some (.string s) ∧ Below w.heap.size w W') ((refine ⟨(HKP.out _ ?_).1, (HKP.out _ ?_).2.1, (HKP.out _ ?_).2.2, ?_⟩ <;> repeat (first | assumption | exact Below.refl _ _ | apply pw_below_drewN | apply below_drew1))) (first | ((try go_simp); go_at_call 20; (with_reducible refine (HF.out _).mono ?_); rintro e w31 ⟨rfl, hb⟩; have HB31 : Below w.heap.size w w31 := below_step (by repeat (first | assumption | exact Below.refl _ _ | apply pw_below_drewN | apply below_drew1)) hb) | ((try go_simp); go_at_call 28; (with_reducible refine (strings_ReplaceAll.calls s _ _ x _ A2.out).mono ?_); rintro e w31 ⟨rfl, hb⟩; have HB31 : Below w.heap.size w w31 := below_step (by repeat (first | assumption | exact Below.refl _ _ | apply pw_below_drewN | apply below_drew1)) hb))
 go_wp2
 go_ret
 exact ⟨rfl, by repeat (first | assumption | exact Below.refl _ _ | apply pw_below_drewN | apply below_drew1)⟩
theorem run_store_fn {P : Program} {w : World} {a : Addr} {m : Mode} (f : Fn) (x y : Array Value) : (store a (.func f x y) m).run P w = stored P w a (.func f x y) m := run_store P w a _ m rfl
attribute [local go_sem] run_store_fn
theorem put_ix0 (f0 f1 f2 f3 f4 : Value) (W : World) : (Instr.index 54 (.agg #[f0, f1, f2, f3, f4]) (.int .i64 0)).run Tryd.prog W = .ok f0 W := by kernel_rfl
theorem put_ix1 (f0 f1 f2 f3 f4 : Value) (W : World) : (Instr.index 54 (.agg #[f0, f1, f2, f3, f4]) (.int .i64 1)).run Tryd.prog W = .ok f1 W := by kernel_rfl
theorem put_ix2 (f0 f1 f2 f3 f4 : Value) (W : World) : (Instr.index 54 (.agg #[f0, f1, f2, f3, f4]) (.int .i64 2)).run Tryd.prog W = .ok f2 W := by kernel_rfl
theorem put_ix3 (f0 f1 f2 f3 f4 : Value) (W : World) : (Instr.index 54 (.agg #[f0, f1, f2, f3, f4]) (.int .i64 3)).run Tryd.prog W = .ok f3 W := by kernel_rfl
theorem put_ix4 (f0 f1 f2 f3 f4 : Value) (W : World) : (Instr.index 54 (.agg #[f0, f1, f2, f3, f4]) (.int .i64 4)).run Tryd.prog W = .ok f4 W := by kernel_rfl
attribute [local go_sem] put_ix0 put_ix1 put_ix2 put_ix3 put_ix4
theorem put_st {w w2 : World} {gb4 : Nat} {cs : Array Value} {v : Value} {t ct : TypeId} {g : Nat} (h4 : w2.heap[gb4]? = some (.cells #[v] t (0, 0))) (h1 : w2.heap[g]? = some (.cells cs ct (0, 0))) (hne : g ≠ gb4) (hb : Below w.heap.size w w2) (hge : w.heap.size ≤ gb4) (u : Value) :
  (w2.setCell ⟨gb4, 0, none⟩ u).heap[gb4]? = some (.cells #[u] t (0, 0)) ∧ (w2.setCell ⟨gb4, 0, none⟩ u).heap[g]? = some (.cells cs ct (0, 0)) ∧ Below w.heap.size w (w2.setCell ⟨gb4, 0, none⟩ u) :=
 ⟨blk_put h4 0 u rfl, (Below.heap_setCell w2 ⟨gb4, 0, none⟩ u g hne).trans h1, below_set hb hge⟩
theorem put_st2 {w w4 : World} {gb4 gb5 : Nat} {cs : Array Value} {v v4 : Value} {t t4 ct : TypeId} {g : Nat} (h5 : w4.heap[gb5]? = some (.cells #[v] t (0, 0))) (h4 : w4.heap[gb4]? = some (.cells #[v4] t4 (0, 0))) (h1 : w4.heap[g]? = some (.cells cs ct (0, 0))) (hn4 : gb4 ≠ gb5) (hn1 : g ≠ gb5) (hb : Below w.heap.size w w4) (hge : w.heap.size ≤ gb5) (u : Value) :
  (w4.setCell ⟨gb5, 0, none⟩ u).heap[gb5]? = some (.cells #[u] t (0, 0)) ∧ (w4.setCell ⟨gb5, 0, none⟩ u).heap[gb4]? = some (.cells #[v4] t4 (0, 0)) ∧ (w4.setCell ⟨gb5, 0, none⟩ u).heap[g]? = some (.cells cs ct (0, 0)) ∧ Below w.heap.size w (w4.setCell ⟨gb5, 0, none⟩ u) :=
 ⟨blk_put h5 0 u rfl, (Below.heap_setCell w4 ⟨gb5, 0, none⟩ u gb4 hn4).trans h4, (Below.heap_setCell w4 ⟨gb5, 0, none⟩ u g hn1).trans h1, below_set hb hge⟩
theorem put_app {n : Int} {x y : ByteArray} (h : col_Put.app (strOfNums [n]) x = some y) : 1 + x.size ≤ 9223372036854775807 ∧ y = strOfNums [n] ++ x := by
 unfold col_Put.app at h
 by_cases c : (strOfNums [n]).size + x.size ≤ 9223372036854775807
 rotate_left
 ·rw [if_neg c] at h; cases h
 rw [if_pos c] at h; exact ⟨c, (Option.some.inj h).symm⟩
theorem put_app3 {n : Int} {x y z : ByteArray} (h : col_Put.app (strOfNums [n]) x = some y) (h2 : col_Put.app y (⟨#[0, 1]⟩ : ByteArray) = some z) : 1 + x.size ≤ 9223372036854775805 ∧ z = strOfNums [n] ++ x ++ (⟨#[0, 1]⟩ : ByteArray) := by
 obtain ⟨c, rfl⟩ := put_app h
 unfold col_Put.app at h2
 by_cases d : (strOfNums [n] ++ x).size + (⟨#[0, 1]⟩ : ByteArray).size ≤ 9223372036854775807
 rotate_left
 ·rw [if_neg d] at h2; cases h2
 rw [if_pos d] at h2
 refine ⟨?_, (Option.some.inj h2).symm⟩
 rw [ByteArray.size_append] at d
 have e1 : (strOfNums [n]).size = 1 := rfl
 have e2 : (⟨#[0, 1]⟩ : ByteArray).size = 2 := rfl
 omega
theorem put_two {o : Option ByteArray} {g : ByteArray → Option ByteArray} {r1 : ByteArray} {r2 : Int} (h : (o.bind fun x => (g x).bind fun y => some (y, (0 : Int))) = some (r1, r2)) : ∃ x, o = some x ∧ ∃ y, g x = some y ∧ r1 = y ∧ r2 = 0 := by
 obtain ⟨x, hx, h⟩ := Option.bind_eq_some_iff.mp h
 obtain ⟨y, hy, h⟩ := Option.bind_eq_some_iff.mp h
 simp only [Option.some.injEq, Prod.mk.injEq] at h
 exact ⟨x, hx, y, hy, h.1.symm, h.2.symm⟩
theorem put_three {o : Option ByteArray} {g f : ByteArray → Option ByteArray} {r1 : ByteArray} {r2 : Int} (h : (o.bind fun x => (g x).bind fun y => (f y).bind fun z => some (z, (0 : Int))) = some (r1, r2)) : ∃ x, o = some x ∧ ∃ y, g x = some y ∧ ∃ z, f y = some z ∧ r1 = z ∧ r2 = 0 := by
 obtain ⟨x, hx, h⟩ := Option.bind_eq_some_iff.mp h
 obtain ⟨y, hy, h⟩ := Option.bind_eq_some_iff.mp h
 obtain ⟨z, hz, h⟩ := Option.bind_eq_some_iff.mp h
 simp only [Option.some.injEq, Prod.mk.injEq] at h
 exact ⟨x, hx, y, hy, z, hz, h.1.symm, h.2.symm⟩
set_option maxHeartbeats 8000000 in
set_option maxRecDepth 100000 in
theorem col_Put.calls (k : Nat) (a0_0 : Int) (a0_1 : Int) (a0_2 : Int) (a0_3 : ByteArray) (r1 : ByteArray) (r2 : Int) (w : World) (h : col_Put.f k a0_0 a0_1 a0_2 a0_3 = some (r1, r2)) :
  Calls Tryd.prog 10 #[.agg #[.int .i64 a0_0, .int .i64 a0_1, .int .u64 a0_2, .string a0_3]] w fun e w' => e = .returned (.tuple #[.string r1, .int .i64 r2]) ∧ Below w.heap.size w w' := by
 unfold col_Put.f at h
 replace h := Option.bind_eq_some_iff.mp h
 obtain ⟨t, A10, H⟩ := h
 have A1 := Aside0.mk A10
 clear A10
 cases t with
 | false =>
  rw [if_neg Bool.false_ne_true] at H
  simp only [Option.some.injEq, Prod.mk.injEq] at H
  obtain ⟨rfl, rfl⟩ := H
  go_enter Tryd.func10, Tryd.ntmps10
  go_wp2_with (go_at_call 15; (with_reducible refine (col_Right.calls k a0_0 a0_1 a0_2 a0_3 false _ A1.out).mono ?_); rintro e w1 ⟨rfl, hb⟩)
  go_ret2
  exact ⟨rfl, by repeat (first | exact below_step (below_alloc (Below.refl _ _) _) hb | apply pw_below_drewN | apply below_drew1)⟩
 | true =>
  rw [if_pos rfl] at H
  by_cases c0 : a0_0 = 0
  ·rw [if_pos c0] at H
   subst c0
   simp only [Option.some.injEq, Prod.mk.injEq] at H
   obtain ⟨rfl, rfl⟩ := H
   go_enter Tryd.func10, Tryd.ntmps10
   go_wp2_with (first | (go_at_call 15; (with_reducible refine (col_Right.calls k 0 a0_1 a0_2 a0_3 true _ A1.out).mono ?_); rintro e w1 ⟨rfl, hb⟩; have g1 := as_ (blk_below (blk_new w (.cells #[.int .i64 0, .int .i64 a0_1, .int .u64 a0_2, .string a0_3] 24)) hb); have hb1 := as_ (below_step (below_alloc (Below.refl _ _) _) hb); clear hb) | ((with_reducible refine gate_dst (N := 4) rfl ?_); refine box_event (by rfl) (N := 4) (by rfl) (cs := #[.nilFunc]) (t := 50) gS ?_; intro gb4 hg4 w2 hbox hb; have Q1 := as_ (put_st hbox (blk_below g1.out hb) (by have := blk_lt g1.out; omega) (below_step hb1.out hb) (by have := blk_lt g1.out; have := below_size hb1.out; omega) (.func (.func 20) #[] #[])); have c4 : w2.cell? ⟨gb4, 0, none⟩ = some .nilFunc := (blk_cell hbox 0).trans rfl; have f4 := blk_frozen hbox 0; have q0 : (w2.setCell ⟨gb4, 0, none⟩ (.func (.func 20) #[] #[])).cell? ⟨w.heap.size, 0, none⟩ = some (.int .i64 0) := (blk_cell Q1.out.2.1 0).trans rfl; clear hbox hb g1 hb1 hg4) | ((with_reducible refine gate_dst (N := 5) rfl ?_); refine box_event (by rfl) (N := 5) (by rfl) (cs := #[.int .i64 0]) (t := 3) gS ?_; intro gb5 hg5 w4 hbox hb; have Q2 := as_ (put_st2 hbox (blk_below Q1.out.1 hb) (blk_below Q1.out.2.1 hb) (by have := blk_lt Q1.out.1; omega) (by have := blk_lt Q1.out.2.1; omega) (below_step Q1.out.2.2 hb) (by have := below_size Q1.out.2.2; omega) (.int .i64 16)); have c5 : w4.cell? ⟨gb5, 0, none⟩ = some (.int .i64 0) := (blk_cell hbox 0).trans rfl; have f5 := blk_frozen hbox 0; have q0b : (w4.setCell ⟨gb5, 0, none⟩ (.int .i64 16)).cell? ⟨w.heap.size, 0, none⟩ = some (.int .i64 0) := (blk_cell Q2.out.2.2.1 0).trans rfl; clear hbox hb hg5) | (go_at_call 21; ((with_reducible refine (col_put0.calls gb4 gb5 16 _ ((blk_cell Q2.out.2.1 0).trans rfl) ((blk_cell Q2.out.1 0).trans rfl)).mono ?_); rintro e w5 ⟨rfl, hb⟩; have HBF := as_ (below_step Q2.out.2.2.2 hb); clear hb)))
   go_ret2
   exact ⟨rfl, by repeat (first | exact HBF.out | apply pw_below_drewN | apply below_drew1)⟩
  rw [if_neg c0] at H
  by_cases c1 : a0_0 = 1
  ·rw [if_pos c1] at H
   clear c0
   subst c1
   simp only [Option.some.injEq, Prod.mk.injEq] at H
   obtain ⟨rfl, rfl⟩ := H
   go_enter Tryd.func10, Tryd.ntmps10
   go_wp2_with (first | (go_at_call 15; (with_reducible refine (col_Right.calls k 1 a0_1 a0_2 a0_3 true _ A1.out).mono ?_); rintro e w1 ⟨rfl, hb⟩; have g1 := as_ (blk_below (blk_new w (.cells #[.int .i64 1, .int .i64 a0_1, .int .u64 a0_2, .string a0_3] 24)) hb); have hb1 := as_ (below_step (below_alloc (Below.refl _ _) _) hb); clear hb) | ((with_reducible refine gate_dst (N := 4) rfl ?_); refine box_event (by rfl) (N := 4) (by rfl) (cs := #[.nilFunc]) (t := 50) gS ?_; intro gb4 hg4 w2 hbox hb; have Q1 := as_ (put_st hbox (blk_below g1.out hb) (by have := blk_lt g1.out; omega) (below_step hb1.out hb) (by have := blk_lt g1.out; have := below_size hb1.out; omega) (.func (.func 20) #[] #[])); have c4 : w2.cell? ⟨gb4, 0, none⟩ = some .nilFunc := (blk_cell hbox 0).trans rfl; have f4 := blk_frozen hbox 0; have q0 : (w2.setCell ⟨gb4, 0, none⟩ (.func (.func 20) #[] #[])).cell? ⟨w.heap.size, 0, none⟩ = some (.int .i64 1) := (blk_cell Q1.out.2.1 0).trans rfl; clear hbox hb g1 hb1 hg4) | ((with_reducible refine gate_dst (N := 5) rfl ?_); refine box_event (by rfl) (N := 5) (by rfl) (cs := #[.int .i64 0]) (t := 3) gS ?_; intro gb5 hg5 w4 hbox hb; have Q2 := as_ (put_st2 hbox (blk_below Q1.out.1 hb) (blk_below Q1.out.2.1 hb) (by have := blk_lt Q1.out.1; omega) (by have := blk_lt Q1.out.2.1; omega) (below_step Q1.out.2.2 hb) (by have := below_size Q1.out.2.2; omega) (.int .i64 32)); have c5 : w4.cell? ⟨gb5, 0, none⟩ = some (.int .i64 0) := (blk_cell hbox 0).trans rfl; have f5 := blk_frozen hbox 0; have q0b : (w4.setCell ⟨gb5, 0, none⟩ (.int .i64 32)).cell? ⟨w.heap.size, 0, none⟩ = some (.int .i64 1) := (blk_cell Q2.out.2.2.1 0).trans rfl; clear hbox hb hg5) | (go_at_call 22; ((with_reducible refine (col_put1.calls gb4 gb5 w.heap.size 32 a0_2 _ ((blk_cell Q2.out.2.1 0).trans rfl) ((blk_cell Q2.out.1 0).trans rfl) ((blk_cell Q2.out.2.2.1 2).trans rfl)).mono ?_); rintro e w5 ⟨rfl, hb⟩; have HBF := as_ (below_step Q2.out.2.2.2 hb); clear hb)))
   go_ret2
   exact ⟨rfl, by repeat (first | exact HBF.out | apply pw_below_drewN | apply below_drew1)⟩
  rw [if_neg c1] at H
  by_cases c2 : a0_0 = 2
  ·rw [if_pos c2] at H
   clear c0 c1
   subst c2
   obtain ⟨x, hx0, y, hx1, rfl, rfl⟩ := put_two H
   have hx := Aside0.mk hx0
   have hz := as_ (put_app hx1)
   rw [(put_app hx1).2]
   clear hx0 hx1 H
   go_enter Tryd.func10, Tryd.ntmps10
   go_wp2_with (first | (go_at_call 15; (with_reducible refine (col_Right.calls k 2 a0_1 a0_2 a0_3 true _ A1.out).mono ?_); rintro e w1 ⟨rfl, hb⟩; have g1 := as_ (blk_below (blk_new w (.cells #[.int .i64 2, .int .i64 a0_1, .int .u64 a0_2, .string a0_3] 24)) hb); have hb1 := as_ (below_step (below_alloc (Below.refl _ _) _) hb); clear hb) | ((with_reducible refine gate_dst (N := 4) rfl ?_); refine box_event (by rfl) (N := 4) (by rfl) (cs := #[.nilFunc]) (t := 50) gS ?_; intro gb4 hg4 w2 hbox hb; have Q1 := as_ (put_st hbox (blk_below g1.out hb) (by have := blk_lt g1.out; omega) (below_step hb1.out hb) (by have := blk_lt g1.out; have := below_size hb1.out; omega) (.func (.func 20) #[] #[])); have c4 : w2.cell? ⟨gb4, 0, none⟩ = some .nilFunc := (blk_cell hbox 0).trans rfl; have f4 := blk_frozen hbox 0; have q0 : (w2.setCell ⟨gb4, 0, none⟩ (.func (.func 20) #[] #[])).cell? ⟨w.heap.size, 0, none⟩ = some (.int .i64 2) := (blk_cell Q1.out.2.1 0).trans rfl; clear hbox hb g1 hb1 hg4) | ((with_reducible refine gate_dst (N := 5) rfl ?_); refine box_event (by rfl) (N := 5) (by rfl) (cs := #[.int .i64 0]) (t := 3) gS ?_; intro gb5 hg5 w4 hbox hb; have Q2 := as_ (put_st2 hbox (blk_below Q1.out.1 hb) (blk_below Q1.out.2.1 hb) (by have := blk_lt Q1.out.1; omega) (by have := blk_lt Q1.out.2.1; omega) (below_step Q1.out.2.2 hb) (by have := below_size Q1.out.2.2; omega) (.int .i64 48)); have c5 : w4.cell? ⟨gb5, 0, none⟩ = some (.int .i64 0) := (blk_cell hbox 0).trans rfl; have f5 := blk_frozen hbox 0; have q0b : (w4.setCell ⟨gb5, 0, none⟩ (.int .i64 48)).cell? ⟨w.heap.size, 0, none⟩ = some (.int .i64 2) := (blk_cell Q2.out.2.2.1 0).trans rfl; clear hbox hb hg5) | (go_at_call 23; ((with_reducible refine (col_put2.calls gb4 gb5 w.heap.size 48 a0_1 x _ ((blk_cell Q2.out.2.1 0).trans rfl) ((blk_cell Q2.out.1 0).trans rfl) ((blk_cell Q2.out.2.2.1 1).trans rfl) (blk_lt Q2.out.2.1) (blk_lt Q2.out.1) (blk_lt Q2.out.2.2.1) hx.out hz.out.1).mono ?_); rintro e w5 ⟨rfl, hb⟩; have HBF := as_ (below_step Q2.out.2.2.2 hb); clear hb)))
   go_ret2
   exact ⟨rfl, by repeat (first | exact HBF.out | apply pw_below_drewN | apply below_drew1)⟩
  rw [if_neg c2] at H
  by_cases c3 : a0_0 = 3
  ·rw [if_pos c3] at H
   clear c0 c1 c2
   subst c3
   obtain ⟨x, hx0, y, hx1, rfl, rfl⟩ := put_two H
   have hx := Aside0.mk hx0
   have hz := as_ (put_app hx1)
   rw [(put_app hx1).2]
   clear hx0 hx1 H
   go_enter Tryd.func10, Tryd.ntmps10
   go_wp2_with (first | (go_at_call 15; (with_reducible refine (col_Right.calls k 3 a0_1 a0_2 a0_3 true _ A1.out).mono ?_); rintro e w1 ⟨rfl, hb⟩; have g1 := as_ (blk_below (blk_new w (.cells #[.int .i64 3, .int .i64 a0_1, .int .u64 a0_2, .string a0_3] 24)) hb); have hb1 := as_ (below_step (below_alloc (Below.refl _ _) _) hb); clear hb) | ((with_reducible refine gate_dst (N := 4) rfl ?_); refine box_event (by rfl) (N := 4) (by rfl) (cs := #[.nilFunc]) (t := 50) gS ?_; intro gb4 hg4 w2 hbox hb; have Q1 := as_ (put_st hbox (blk_below g1.out hb) (by have := blk_lt g1.out; omega) (below_step hb1.out hb) (by have := blk_lt g1.out; have := below_size hb1.out; omega) (.func (.func 20) #[] #[])); have c4 : w2.cell? ⟨gb4, 0, none⟩ = some .nilFunc := (blk_cell hbox 0).trans rfl; have f4 := blk_frozen hbox 0; have q0 : (w2.setCell ⟨gb4, 0, none⟩ (.func (.func 20) #[] #[])).cell? ⟨w.heap.size, 0, none⟩ = some (.int .i64 3) := (blk_cell Q1.out.2.1 0).trans rfl; clear hbox hb g1 hb1 hg4) | ((with_reducible refine gate_dst (N := 5) rfl ?_); refine box_event (by rfl) (N := 5) (by rfl) (cs := #[.int .i64 0]) (t := 3) gS ?_; intro gb5 hg5 w4 hbox hb; have Q2 := as_ (put_st2 hbox (blk_below Q1.out.1 hb) (blk_below Q1.out.2.1 hb) (by have := blk_lt Q1.out.1; omega) (by have := blk_lt Q1.out.2.1; omega) (below_step Q1.out.2.2 hb) (by have := below_size Q1.out.2.2; omega) (.int .i64 64)); have c5 : w4.cell? ⟨gb5, 0, none⟩ = some (.int .i64 0) := (blk_cell hbox 0).trans rfl; have f5 := blk_frozen hbox 0; have q0b : (w4.setCell ⟨gb5, 0, none⟩ (.int .i64 64)).cell? ⟨w.heap.size, 0, none⟩ = some (.int .i64 3) := (blk_cell Q2.out.2.2.1 0).trans rfl; clear hbox hb hg5) | (go_at_call 25; ((with_reducible refine (col_put3.calls gb4 gb5 w.heap.size 64 k a0_2 x _ ((blk_cell Q2.out.2.1 0).trans rfl) ((blk_cell Q2.out.1 0).trans rfl) ((blk_cell Q2.out.2.2.1 2).trans rfl) (blk_lt Q2.out.2.1) (blk_lt Q2.out.1) (blk_lt Q2.out.2.2.1) hx.out hz.out.1).mono ?_); rintro e w5 ⟨rfl, hb⟩; have HBF := as_ (below_step Q2.out.2.2.2 hb); clear hb)))
   go_ret2
   exact ⟨rfl, by repeat (first | exact HBF.out | apply pw_below_drewN | apply below_drew1)⟩
  rw [if_neg c3] at H
  by_cases c4 : a0_0 = 4
  ·rw [if_pos c4] at H
   clear c0 c1 c2 c3
   subst c4
   obtain ⟨x, hx0, y, hx1, z, hx2, rfl, rfl⟩ := put_three H
   have hx := Aside0.mk hx0
   have hz := as_ (put_app3 hx1 hx2)
   rw [(put_app3 hx1 hx2).2]
   clear hx0 hx1 hx2 H
   go_enter Tryd.func10, Tryd.ntmps10
   go_wp2_with (first | (go_at_call 15; (with_reducible refine (col_Right.calls k 4 a0_1 a0_2 a0_3 true _ A1.out).mono ?_); rintro e w1 ⟨rfl, hb⟩; have g1 := as_ (blk_below (blk_new w (.cells #[.int .i64 4, .int .i64 a0_1, .int .u64 a0_2, .string a0_3] 24)) hb); have hb1 := as_ (below_step (below_alloc (Below.refl _ _) _) hb); clear hb) | ((with_reducible refine gate_dst (N := 4) rfl ?_); refine box_event (by rfl) (N := 4) (by rfl) (cs := #[.nilFunc]) (t := 50) gS ?_; intro gb4 hg4 w2 hbox hb; have Q1 := as_ (put_st hbox (blk_below g1.out hb) (by have := blk_lt g1.out; omega) (below_step hb1.out hb) (by have := blk_lt g1.out; have := below_size hb1.out; omega) (.func (.func 20) #[] #[])); have c4 : w2.cell? ⟨gb4, 0, none⟩ = some .nilFunc := (blk_cell hbox 0).trans rfl; have f4 := blk_frozen hbox 0; have q0 : (w2.setCell ⟨gb4, 0, none⟩ (.func (.func 20) #[] #[])).cell? ⟨w.heap.size, 0, none⟩ = some (.int .i64 4) := (blk_cell Q1.out.2.1 0).trans rfl; clear hbox hb g1 hb1 hg4) | ((with_reducible refine gate_dst (N := 5) rfl ?_); refine box_event (by rfl) (N := 5) (by rfl) (cs := #[.int .i64 0]) (t := 3) gS ?_; intro gb5 hg5 w4 hbox hb; have Q2 := as_ (put_st2 hbox (blk_below Q1.out.1 hb) (blk_below Q1.out.2.1 hb) (by have := blk_lt Q1.out.1; omega) (by have := blk_lt Q1.out.2.1; omega) (below_step Q1.out.2.2 hb) (by have := below_size Q1.out.2.2; omega) (.int .i64 80)); have c5 : w4.cell? ⟨gb5, 0, none⟩ = some (.int .i64 0) := (blk_cell hbox 0).trans rfl; have f5 := blk_frozen hbox 0; have q0b : (w4.setCell ⟨gb5, 0, none⟩ (.int .i64 80)).cell? ⟨w.heap.size, 0, none⟩ = some (.int .i64 4) := (blk_cell Q2.out.2.2.1 0).trans rfl; clear hbox hb hg5) | (go_at_call 27; ((with_reducible refine (col_put4.calls gb4 gb5 w.heap.size 80 a0_3 x _ ((blk_cell Q2.out.2.1 0).trans rfl) ((blk_cell Q2.out.1 0).trans rfl) ((blk_cell Q2.out.2.2.1 3).trans rfl) (blk_lt Q2.out.2.1) (blk_lt Q2.out.1) (blk_lt Q2.out.2.2.1) hx.out hz.out.1).mono ?_); rintro e w5 ⟨rfl, hb⟩; have HBF := as_ (below_step Q2.out.2.2.2 hb); clear hb)))
   go_ret2
   exact ⟨rfl, by repeat (first | exact HBF.out | apply pw_below_drewN | apply below_drew1)⟩
  rw [if_neg c4] at H
  cases H


/-! ### withyref03_Right: function 16 -/
def withyref03_Right.f (a0_0 : Int) (a0_1 : Int) (a0_2 : Int) (a0_3 : ByteArray) : Option (Bool) := if a0_0 = 0 then (if a0_1 = 0 then (if a0_2 = 0 then (some (a0_3.toList == ([] : List UInt8))) else (some false)) else (some false)) else (if a0_0 = 1 then (if a0_1 = 0 then (if a0_2 ≤ 1 then (some (a0_3.toList == ([] : List UInt8))) else (some false)) else (some false)) else (if a0_0 = 2 then (if a0_2 = 0 then (some (a0_3.toList == ([] : List UInt8))) else (some false)) else (if a0_0 = 3 then (if a0_1 = 0 then (some (a0_3.toList == ([] : List UInt8))) else (some false)) else (if a0_0 = 4 then (if a0_1 = 0 then (some (a0_2 == 0)) else (some false)) else (some false)))))
set_option maxHeartbeats 8000000 in
set_option maxRecDepth 100000 in
theorem withyref03_Right.calls (a0_0 : Int) (a0_1 : Int) (a0_2 : Int) (a0_3 : ByteArray) (r : Bool) (w : World) (h : withyref03_Right.f a0_0 a0_1 a0_2 a0_3 = some r) :
  Calls Tryd.prog 16 #[.agg #[.int .i64 a0_0, .int .i64 a0_1, .int .u64 a0_2, .string a0_3]] w fun e w' => e = .returned (.bool r) ∧ Below w.heap.size w w' := by
 have hu32 := Tryd.underlying32
 have HB := as_ (Below.refl w.heap.size w)
 have H : (if a0_0 = 0 then (if a0_1 = 0 then (if a0_2 = 0 then (some (a0_3.toList == ([] : List UInt8))) else (some false)) else (some false)) else (if a0_0 = 1 then (if a0_1 = 0 then (if a0_2 ≤ 1 then (some (a0_3.toList == ([] : List UInt8))) else (some false)) else (some false)) else (if a0_0 = 2 then (if a0_2 = 0 then (some (a0_3.toList == ([] : List UInt8))) else (some false)) else (if a0_0 = 3 then (if a0_1 = 0 then (some (a0_3.toList == ([] : List UInt8))) else (some false)) else (if a0_0 = 4 then (if a0_1 = 0 then (some (a0_2 == 0)) else (some false)) else (some false)))))) = some r := h
 clear h
 by_cases c2 : a0_0 = 0
 ·rw [if_pos c2] at H
  have c2b0 : (a0_0 == 0) = true := beq_iff_eq.mpr c2
  have c2b1 : (a0_0 != 0) = false := bne_eq_false_iff_eq.mpr c2
  clear c2
  by_cases c3 : a0_1 = 0
  rotate_left
  ·rw [if_neg c3] at H
   have c3b0 : (a0_1 == 0) = false := beq_eq_false_iff_ne.mpr c3
   have c3b1 : (a0_1 != 0) = true := bne_iff_ne.mpr c3
   obtain rfl := Option.some.inj H
   go_enter Tryd.func16, Tryd.ntmps16
   go_wp2_with (first | ((with_reducible refine gate_dst (N := 1) rfl ?_); refine box_event (by rfl) (N := 1) (by rfl) (cs := #[.int .i64 a0_0, .int .i64 a0_1, .int .u64 a0_2, .string a0_3]) (t := 32) gS ?_; intro gb125 hg w9 hbox hb; have BK125 := as_ (hbox); have GW125 := gw hg bA; have GE125 := gw hg bA; replace HB := as_ (below_step bA hb); clear hb hbox hg; obtain ⟨hcz10_0, hcz10_1, hcz10_2, hcz10_3⟩ := zc4 BK125; obtain ⟨hfz10_0, hfz10_1, hfz10_2, hfz10_3⟩ := zf4 BK125))
   go_ret
   exact ⟨eW, by repeat (first | (with_reducible first | exact HB.out | apply below_alloc | apply pw_below_drewN | apply below_drew1 | refine below_set ?_ GE125.out) | exact HB.out)⟩
  rw [if_pos c3] at H
  have c3b0 : (a0_1 == 0) = true := beq_iff_eq.mpr c3
  have c3b1 : (a0_1 != 0) = false := bne_eq_false_iff_eq.mpr c3
  clear c3
  by_cases c4 : a0_2 = 0
  rotate_left
  ·rw [if_neg c4] at H
   have c4b0 : (a0_2 == 0) = false := beq_eq_false_iff_ne.mpr c4
   have c4b1 : (a0_2 != 0) = true := bne_iff_ne.mpr c4
   obtain rfl := Option.some.inj H
   go_enter Tryd.func16, Tryd.ntmps16
   go_wp2_with (first | ((with_reducible refine gate_dst (N := 1) rfl ?_); refine box_event (by rfl) (N := 1) (by rfl) (cs := #[.int .i64 a0_0, .int .i64 a0_1, .int .u64 a0_2, .string a0_3]) (t := 32) gS ?_; intro gb125 hg w7 hbox hb; have BK125 := as_ (hbox); have GW125 := gw hg bA; have GE125 := gw hg bA; replace HB := as_ (below_step bA hb); clear hb hbox hg; obtain ⟨hcz8_0, hcz8_1, hcz8_2, hcz8_3⟩ := zc4 BK125; obtain ⟨hfz8_0, hfz8_1, hfz8_2, hfz8_3⟩ := zf4 BK125))
   go_ret
   exact ⟨eW, by repeat (first | (with_reducible first | exact HB.out | apply below_alloc | apply pw_below_drewN | apply below_drew1 | refine below_set ?_ GE125.out) | exact HB.out)⟩
  rw [if_pos c4] at H
  have c4b0 : (a0_2 == 0) = true := beq_iff_eq.mpr c4
  have c4b1 : (a0_2 != 0) = false := bne_eq_false_iff_eq.mpr c4
  clear c4
  obtain rfl := Option.some.inj H
  go_enter Tryd.func16, Tryd.ntmps16
  go_wp2_with (first | ((with_reducible refine gate_dst (N := 1) rfl ?_); refine box_event (by rfl) (N := 1) (by rfl) (cs := #[.int .i64 a0_0, .int .i64 a0_1, .int .u64 a0_2, .string a0_3]) (t := 32) gS ?_; intro gb125 hg w5 hbox hb; have BK125 := as_ (hbox); have GW125 := gw hg bA; have GE125 := gw hg bA; replace HB := as_ (below_step bA hb); clear hb hbox hg; obtain ⟨hcz6_0, hcz6_1, hcz6_2, hcz6_3⟩ := zc4 BK125; obtain ⟨hfz6_0, hfz6_1, hfz6_2, hfz6_3⟩ := zf4 BK125))
  go_ret
  exact ⟨eW, by repeat (first | (with_reducible first | exact HB.out | apply below_alloc | apply pw_below_drewN | apply below_drew1 | refine below_set ?_ GE125.out) | exact HB.out)⟩
 rw [if_neg c2] at H
 have c2b0 : (a0_0 == 0) = false := beq_eq_false_iff_ne.mpr c2
 have c2b1 : (a0_0 != 0) = true := bne_iff_ne.mpr c2
 by_cases c11 : a0_0 = 1
 ·rw [if_pos c11] at H
  have c11b0 : (a0_0 == 1) = true := beq_iff_eq.mpr c11
  have c11b1 : (a0_0 != 1) = false := bne_eq_false_iff_eq.mpr c11
  clear c11
  by_cases c12 : a0_1 = 0
  rotate_left
  ·rw [if_neg c12] at H
   have c12b0 : (a0_1 == 0) = false := beq_eq_false_iff_ne.mpr c12
   have c12b1 : (a0_1 != 0) = true := bne_iff_ne.mpr c12
   obtain rfl := Option.some.inj H
   go_enter Tryd.func16, Tryd.ntmps16
   go_wp2_with (first | ((with_reducible refine gate_dst (N := 1) rfl ?_); refine box_event (by rfl) (N := 1) (by rfl) (cs := #[.int .i64 a0_0, .int .i64 a0_1, .int .u64 a0_2, .string a0_3]) (t := 32) gS ?_; intro gb125 hg w18 hbox hb; have BK125 := as_ (hbox); have GW125 := gw hg bA; have GE125 := gw hg bA; replace HB := as_ (below_step bA hb); clear hb hbox hg; obtain ⟨hcz19_0, hcz19_1, hcz19_2, hcz19_3⟩ := zc4 BK125; obtain ⟨hfz19_0, hfz19_1, hfz19_2, hfz19_3⟩ := zf4 BK125))
   go_ret
   exact ⟨eW, by repeat (first | (with_reducible first | exact HB.out | apply below_alloc | apply pw_below_drewN | apply below_drew1 | refine below_set ?_ GE125.out) | exact HB.out)⟩
  rw [if_pos c12] at H
  have c12b0 : (a0_1 == 0) = true := beq_iff_eq.mpr c12
  have c12b1 : (a0_1 != 0) = false := bne_eq_false_iff_eq.mpr c12
  clear c12
  by_cases c13 : a0_2 ≤ 1
  rotate_left
  ·rw [if_neg c13] at H
   have c13b0 : decide (a0_2 ≤ 1) = false := decide_eq_false c13
   clear c13
   obtain rfl := Option.some.inj H
   go_enter Tryd.func16, Tryd.ntmps16
   go_wp2_with (first | ((with_reducible refine gate_dst (N := 1) rfl ?_); refine box_event (by rfl) (N := 1) (by rfl) (cs := #[.int .i64 a0_0, .int .i64 a0_1, .int .u64 a0_2, .string a0_3]) (t := 32) gS ?_; intro gb125 hg w16 hbox hb; have BK125 := as_ (hbox); have GW125 := gw hg bA; have GE125 := gw hg bA; replace HB := as_ (below_step bA hb); clear hb hbox hg; obtain ⟨hcz17_0, hcz17_1, hcz17_2, hcz17_3⟩ := zc4 BK125; obtain ⟨hfz17_0, hfz17_1, hfz17_2, hfz17_3⟩ := zf4 BK125))
   go_ret
   exact ⟨eW, by repeat (first | (with_reducible first | exact HB.out | apply below_alloc | apply pw_below_drewN | apply below_drew1 | refine below_set ?_ GE125.out) | exact HB.out)⟩
  rw [if_pos c13] at H
  have c13b0 : decide (a0_2 ≤ 1) = true := decide_eq_true c13
  clear c13
  obtain rfl := Option.some.inj H
  go_enter Tryd.func16, Tryd.ntmps16
  go_wp2_with (first | ((with_reducible refine gate_dst (N := 1) rfl ?_); refine box_event (by rfl) (N := 1) (by rfl) (cs := #[.int .i64 a0_0, .int .i64 a0_1, .int .u64 a0_2, .string a0_3]) (t := 32) gS ?_; intro gb125 hg w14 hbox hb; have BK125 := as_ (hbox); have GW125 := gw hg bA; have GE125 := gw hg bA; replace HB := as_ (below_step bA hb); clear hb hbox hg; obtain ⟨hcz15_0, hcz15_1, hcz15_2, hcz15_3⟩ := zc4 BK125; obtain ⟨hfz15_0, hfz15_1, hfz15_2, hfz15_3⟩ := zf4 BK125))
  go_ret
  exact ⟨eW, by repeat (first | (with_reducible first | exact HB.out | apply below_alloc | apply pw_below_drewN | apply below_drew1 | refine below_set ?_ GE125.out) | exact HB.out)⟩
 rw [if_neg c11] at H
 have c11b0 : (a0_0 == 1) = false := beq_eq_false_iff_ne.mpr c11
 have c11b1 : (a0_0 != 1) = true := bne_iff_ne.mpr c11
 by_cases c20 : a0_0 = 2
 ·rw [if_pos c20] at H
  have c20b0 : (a0_0 == 2) = true := beq_iff_eq.mpr c20
  have c20b1 : (a0_0 != 2) = false := bne_eq_false_iff_eq.mpr c20
  clear c20
  by_cases c21 : a0_2 = 0
  rotate_left
  ·rw [if_neg c21] at H
   have c21b0 : (a0_2 == 0) = false := beq_eq_false_iff_ne.mpr c21
   have c21b1 : (a0_2 != 0) = true := bne_iff_ne.mpr c21
   obtain rfl := Option.some.inj H
   go_enter Tryd.func16, Tryd.ntmps16
   go_wp2_with (first | ((with_reducible refine gate_dst (N := 1) rfl ?_); refine box_event (by rfl) (N := 1) (by rfl) (cs := #[.int .i64 a0_0, .int .i64 a0_1, .int .u64 a0_2, .string a0_3]) (t := 32) gS ?_; intro gb125 hg w24 hbox hb; have BK125 := as_ (hbox); have GW125 := gw hg bA; have GE125 := gw hg bA; replace HB := as_ (below_step bA hb); clear hb hbox hg; obtain ⟨hcz25_0, hcz25_1, hcz25_2, hcz25_3⟩ := zc4 BK125; obtain ⟨hfz25_0, hfz25_1, hfz25_2, hfz25_3⟩ := zf4 BK125))
   go_ret
   exact ⟨eW, by repeat (first | (with_reducible first | exact HB.out | apply below_alloc | apply pw_below_drewN | apply below_drew1 | refine below_set ?_ GE125.out) | exact HB.out)⟩
  rw [if_pos c21] at H
  have c21b0 : (a0_2 == 0) = true := beq_iff_eq.mpr c21
  have c21b1 : (a0_2 != 0) = false := bne_eq_false_iff_eq.mpr c21
  clear c21
  obtain rfl := Option.some.inj H
  go_enter Tryd.func16, Tryd.ntmps16
  go_wp2_with (first | ((with_reducible refine gate_dst (N := 1) rfl ?_); refine box_event (by rfl) (N := 1) (by rfl) (cs := #[.int .i64 a0_0, .int .i64 a0_1, .int .u64 a0_2, .string a0_3]) (t := 32) gS ?_; intro gb125 hg w22 hbox hb; have BK125 := as_ (hbox); have GW125 := gw hg bA; have GE125 := gw hg bA; replace HB := as_ (below_step bA hb); clear hb hbox hg; obtain ⟨hcz23_0, hcz23_1, hcz23_2, hcz23_3⟩ := zc4 BK125; obtain ⟨hfz23_0, hfz23_1, hfz23_2, hfz23_3⟩ := zf4 BK125))
  go_ret
  exact ⟨eW, by repeat (first | (with_reducible first | exact HB.out | apply below_alloc | apply pw_below_drewN | apply below_drew1 | refine below_set ?_ GE125.out) | exact HB.out)⟩
 rw [if_neg c20] at H
 have c20b0 : (a0_0 == 2) = false := beq_eq_false_iff_ne.mpr c20
 have c20b1 : (a0_0 != 2) = true := bne_iff_ne.mpr c20
 by_cases c26 : a0_0 = 3
 ·rw [if_pos c26] at H
  have c26b0 : (a0_0 == 3) = true := beq_iff_eq.mpr c26
  have c26b1 : (a0_0 != 3) = false := bne_eq_false_iff_eq.mpr c26
  clear c26
  by_cases c27 : a0_1 = 0
  rotate_left
  ·rw [if_neg c27] at H
   have c27b0 : (a0_1 == 0) = false := beq_eq_false_iff_ne.mpr c27
   have c27b1 : (a0_1 != 0) = true := bne_iff_ne.mpr c27
   obtain rfl := Option.some.inj H
   go_enter Tryd.func16, Tryd.ntmps16
   go_wp2_with (first | ((with_reducible refine gate_dst (N := 1) rfl ?_); refine box_event (by rfl) (N := 1) (by rfl) (cs := #[.int .i64 a0_0, .int .i64 a0_1, .int .u64 a0_2, .string a0_3]) (t := 32) gS ?_; intro gb125 hg w30 hbox hb; have BK125 := as_ (hbox); have GW125 := gw hg bA; have GE125 := gw hg bA; replace HB := as_ (below_step bA hb); clear hb hbox hg; obtain ⟨hcz31_0, hcz31_1, hcz31_2, hcz31_3⟩ := zc4 BK125; obtain ⟨hfz31_0, hfz31_1, hfz31_2, hfz31_3⟩ := zf4 BK125))
   go_ret
   exact ⟨eW, by repeat (first | (with_reducible first | exact HB.out | apply below_alloc | apply pw_below_drewN | apply below_drew1 | refine below_set ?_ GE125.out) | exact HB.out)⟩
  rw [if_pos c27] at H
  have c27b0 : (a0_1 == 0) = true := beq_iff_eq.mpr c27
  have c27b1 : (a0_1 != 0) = false := bne_eq_false_iff_eq.mpr c27
  clear c27
  obtain rfl := Option.some.inj H
  go_enter Tryd.func16, Tryd.ntmps16
  go_wp2_with (first | ((with_reducible refine gate_dst (N := 1) rfl ?_); refine box_event (by rfl) (N := 1) (by rfl) (cs := #[.int .i64 a0_0, .int .i64 a0_1, .int .u64 a0_2, .string a0_3]) (t := 32) gS ?_; intro gb125 hg w28 hbox hb; have BK125 := as_ (hbox); have GW125 := gw hg bA; have GE125 := gw hg bA; replace HB := as_ (below_step bA hb); clear hb hbox hg; obtain ⟨hcz29_0, hcz29_1, hcz29_2, hcz29_3⟩ := zc4 BK125; obtain ⟨hfz29_0, hfz29_1, hfz29_2, hfz29_3⟩ := zf4 BK125))
  go_ret
  exact ⟨eW, by repeat (first | (with_reducible first | exact HB.out | apply below_alloc | apply pw_below_drewN | apply below_drew1 | refine below_set ?_ GE125.out) | exact HB.out)⟩
 rw [if_neg c26] at H
 have c26b0 : (a0_0 == 3) = false := beq_eq_false_iff_ne.mpr c26
 have c26b1 : (a0_0 != 3) = true := bne_iff_ne.mpr c26
 by_cases c32 : a0_0 = 4
 rotate_left
 ·rw [if_neg c32] at H
  have c32b0 : (a0_0 == 4) = false := beq_eq_false_iff_ne.mpr c32
  have c32b1 : (a0_0 != 4) = true := bne_iff_ne.mpr c32
  obtain rfl := Option.some.inj H
  go_enter Tryd.func16, Tryd.ntmps16
  go_wp2_with (first | ((with_reducible refine gate_dst (N := 1) rfl ?_); refine box_event (by rfl) (N := 1) (by rfl) (cs := #[.int .i64 a0_0, .int .i64 a0_1, .int .u64 a0_2, .string a0_3]) (t := 32) gS ?_; intro gb125 hg w38 hbox hb; have BK125 := as_ (hbox); have GW125 := gw hg bA; have GE125 := gw hg bA; replace HB := as_ (below_step bA hb); clear hb hbox hg; obtain ⟨hcz39_0, hcz39_1, hcz39_2, hcz39_3⟩ := zc4 BK125; obtain ⟨hfz39_0, hfz39_1, hfz39_2, hfz39_3⟩ := zf4 BK125))
  go_ret
  exact ⟨eW, by repeat (first | (with_reducible first | exact HB.out | apply below_alloc | apply pw_below_drewN | apply below_drew1 | refine below_set ?_ GE125.out) | exact HB.out)⟩
 
 rw [if_pos c32] at H
 have c32b0 : (a0_0 == 4) = true := beq_iff_eq.mpr c32
 have c32b1 : (a0_0 != 4) = false := bne_eq_false_iff_eq.mpr c32
 clear c32
 by_cases c33 : a0_1 = 0
 rotate_left
 ·rw [if_neg c33] at H
  have c33b0 : (a0_1 == 0) = false := beq_eq_false_iff_ne.mpr c33
  have c33b1 : (a0_1 != 0) = true := bne_iff_ne.mpr c33
  obtain rfl := Option.some.inj H
  go_enter Tryd.func16, Tryd.ntmps16
  go_wp2_with (first | ((with_reducible refine gate_dst (N := 1) rfl ?_); refine box_event (by rfl) (N := 1) (by rfl) (cs := #[.int .i64 a0_0, .int .i64 a0_1, .int .u64 a0_2, .string a0_3]) (t := 32) gS ?_; intro gb125 hg w36 hbox hb; have BK125 := as_ (hbox); have GW125 := gw hg bA; have GE125 := gw hg bA; replace HB := as_ (below_step bA hb); clear hb hbox hg; obtain ⟨hcz37_0, hcz37_1, hcz37_2, hcz37_3⟩ := zc4 BK125; obtain ⟨hfz37_0, hfz37_1, hfz37_2, hfz37_3⟩ := zf4 BK125))
  go_ret
  exact ⟨eW, by repeat (first | (with_reducible first | exact HB.out | apply below_alloc | apply pw_below_drewN | apply below_drew1 | refine below_set ?_ GE125.out) | exact HB.out)⟩
 rw [if_pos c33] at H
 have c33b0 : (a0_1 == 0) = true := beq_iff_eq.mpr c33
 have c33b1 : (a0_1 != 0) = false := bne_eq_false_iff_eq.mpr c33
 clear c33
 obtain rfl := Option.some.inj H
 go_enter Tryd.func16, Tryd.ntmps16
 go_wp2_with (first | ((with_reducible refine gate_dst (N := 1) rfl ?_); refine box_event (by rfl) (N := 1) (by rfl) (cs := #[.int .i64 a0_0, .int .i64 a0_1, .int .u64 a0_2, .string a0_3]) (t := 32) gS ?_; intro gb125 hg w34 hbox hb; have BK125 := as_ (hbox); have GW125 := gw hg bA; have GE125 := gw hg bA; replace HB := as_ (below_step bA hb); clear hb hbox hg; obtain ⟨hcz35_0, hcz35_1, hcz35_2, hcz35_3⟩ := zc4 BK125; obtain ⟨hfz35_0, hfz35_1, hfz35_2, hfz35_3⟩ := zf4 BK125))
 go_ret
 exact ⟨eW, by repeat (first | (with_reducible first | exact HB.out | apply below_alloc | apply pw_below_drewN | apply below_drew1 | refine below_set ?_ GE125.out) | exact HB.out)⟩
/-! ### withyref01_digits: function 43 -/
def withyref01_digits.l0 : Nat → Int → List Int → Option (List Int)
 | 0, _, _ => none
 | k + 1, x0, x3 => if x0 > 0 then ((some (([(Int.tmod x0 256) % 256] : List Int) : List Int)).bind fun y129 => (if y129.length + x3.length < 140737488355328 then (withyref01_digits.l0 k (IntKind.u64.wrap (Int.tdiv x0 256)) (y129 ++ x3)) else (none))) else (some x3)
def withyref01_digits.f (k : Nat) (a0 : Int) : Option (List Int) := withyref01_digits.l0 k a0 (([] : List Int))
theorem withyref01_digits.mono_l : ∀ k, (∀ y0 y1, LeO (withyref01_digits.l0 k y0 y1) (withyref01_digits.l0 (k + 1) y0 y1))
 | 0 => fun _ _ r h => by simp [withyref01_digits.l0] at h
 | k + 1 => by
  have ih0 := withyref01_digits.mono_l k
  ·intro y0 y1
   unfold withyref01_digits.l0
   repeat' first
   | (with_reducible exact ih0 _ _)
   | (with_reducible exact LeO.refl _)
   | (with_reducible exact LeO.none _)
   | (with_reducible refine LeO.ite ?_ ?_)
   | (with_reducible refine LeO.bind ?_ (fun _ => ?_))
   | exact ih0 _ _
   | exact LeO.none _
   | refine LeO.ite ?_ ?_
   | refine LeO.bind ?_ (fun _ => ?_)
theorem withyref01_digits.mono : ∀ a0 k, LeO (withyref01_digits.f k a0) (withyref01_digits.f (k + 1) a0) := by
 intro a0 k
 have ih0 := withyref01_digits.mono_l k
 unfold withyref01_digits.f
 repeat' first
   | (with_reducible exact ih0 _ _)
   | (with_reducible exact LeO.refl _)
   | (with_reducible exact LeO.none _)
   | (with_reducible refine LeO.ite ?_ ?_)
   | (with_reducible refine LeO.bind ?_ (fun _ => ?_))
   | exact ih0 _ _
   | exact LeO.none _
   | refine LeO.ite ?_ ?_
   | refine LeO.bind ?_ (fun _ => ?_)
set_option maxHeartbeats 8000000 in
set_option maxRecDepth 100000 in
theorem withyref01_digits.calls (k : Nat) (a0 : Int) (r : List Int) (w : World) (h : withyref01_digits.f k a0 = some r) :
  Calls Tryd.prog 43 #[.int .u64 a0] w fun e w' => ∃ v0_ : Value, e = .returned (v0_) ∧ Kd.R (Kd.int .u8) 5 w' w.heap.size (fun _ => True) v0_ r ∧ Below w.heap.size w w' := by
 have HB := as_ (Below.refl w.heap.size w)
 have H : (withyref01_digits.l0 k a0 (([] : List Int))) = some r := h
 clear h
 obtain ⟨y126, hy126⟩ : ∃ y_ : List Int, y_ = (([] : List Int)) := ⟨_, rfl⟩
 replace H : (withyref01_digits.l0 k a0 y126) = some r := by first | (rw [hy126]; with_reducible exact H) | (have H2_ := (Option.bind_some _ _).symm.trans H; rw [hy126]; with_reducible exact H2_) | (have H2_ := (Option.bind_some _ _).symm.trans H; with_reducible exact H2_) | with_reducible exact H | (rw [hy126]; exact H) | exact H
 have Ny126 := Aside0.mk hy126
 clear hy126
 have H' := Aside0.mk H
 clear H
 go_enter Tryd.func43, Tryd.ntmps43
 go_wp2_with (first | ((with_reducible refine gate_dst (N := 5) rfl ?_); refine Kd.R_lit (Kd.int .u8) _ 5 ?hg (N := 5) ?hd (xs := ([] : List Int)) (inner := []) (ok := fun _ => True) (okp := fun _ => True) ?hr ?hp (fun _ hk => hk) trivial (Below.refl _ _) (Nat.le_refl _) (by simp) ?_; (case hd => rfl); (case hg => rfl); (case hr => first | (go_simp; done) | (go_simp; rfl)); (case hp => exact (Reps.none _ _)); intro v127 w2 ho3 hb hg_ hnew_; clear hg_ hnew_; (first | rw [← Ny126.out] at ho3 | (simp only [Int.reduceToNat] at ho3; rw [← Ny126.out] at ho3)); have HO128 := as_ (Kd.R_lower ho3 (below_size bA)); replace HB := as_ (below_step bA hb); clear hb ho3))
 go_loopg [0, 3] k (fun kq v0 v3 w' => ∃ (x0_1 : Int) (x3_1 : List Int), v0 = .int .u64 x0_1 ∧ Aside0 (withyref01_digits.l0 kq x0_1 x3_1 = some r) ∧ Aside0 (kq ≤ k) ∧ Aside0 (Kd.R (Kd.int .u8) 5 w' w.heap.size (fun _ => True) v3 x3_1) ∧ Aside0 (Below w.heap.size w w'))
 case atStart => exact ⟨(a0), (y126), (by first | rfl | (simp; done) | (simp [*]; done)), H', ⟨Nat.le_refl _⟩, ⟨by (with_reducible repeat (first | apply Kd.R_alloc | apply Kd.R_drewN | apply Kd.R_drew)); exact HO128.out⟩, ⟨by repeat (first | (with_reducible first | exact HB.out | apply below_alloc | apply pw_below_drewN | apply below_drew1) | exact HB.out)⟩⟩
 case round =>
  clear H'
  try clear p2
  obtain ⟨x0_1, x3_1, rfl, HA, HK1, HO_3, HB⟩ := hrel
  cases gk with
  | zero => exact absurd HA.out (by simp [withyref01_digits.l0])
  | succ k1 =>
   have H := HA.out
   clear HA
   simp only [withyref01_digits.l0] at H
   by_cases c4 : x0_1 > 0
   rotate_left
   ·rw [if_neg c4] at H
    have c4b0 : decide (0 < x0_1) = false := decide_eq_false c4
    clear c4
    obtain rfl := Option.some.inj H
    go_wp2
    go_ret
    exact ⟨_, eW, by (with_reducible repeat (first | apply Kd.R_alloc | apply Kd.R_drewN | apply Kd.R_drew)); exact HO_3.out, by repeat (first | (with_reducible first | exact HB.out | apply below_alloc | apply pw_below_drewN | apply below_drew1) | exact HB.out)⟩
 
   rw [if_pos c4] at H
   have c4b0 : decide (0 < x0_1) = true := decide_eq_true c4
   clear c4
   obtain ⟨y129, hy129⟩ : ∃ y_ : List Int, y_ = (([(Int.tmod x0_1 256) % 256] : List Int)) := ⟨_, rfl⟩
   replace H : (if y129.length + x3_1.length < 140737488355328 then (withyref01_digits.l0 k1 (IntKind.u64.wrap (Int.tdiv x0_1 256)) (y129 ++ x3_1)) else (none)) = some r := by first | (rw [hy129]; with_reducible exact H) | (have H2_ := (Option.bind_some _ _).symm.trans H; rw [hy129]; with_reducible exact H2_) | (have H2_ := (Option.bind_some _ _).symm.trans H; with_reducible exact H2_) | with_reducible exact H | (rw [hy129]; exact H) | exact H
   have Ny129 := Aside0.mk hy129
   clear hy129
   by_cases c5 : y129.length + x3_1.length < 140737488355328
   rotate_left
   ·rw [if_neg c5] at H
    exact absurd H (by simp)
   rw [if_pos c5] at H
   have LMc5 := Aside0.mk c5
   clear c5
   obtain ⟨y132, hy132⟩ : ∃ y_ : List Int, y_ = (y129 ++ x3_1) := ⟨_, rfl⟩
   replace H : (withyref01_digits.l0 k1 (IntKind.u64.wrap (Int.tdiv x0_1 256)) y132) = some r := by first | (rw [hy132]; with_reducible exact H) | (have H2_ := (Option.bind_some _ _).symm.trans H; rw [hy132]; with_reducible exact H2_) | (have H2_ := (Option.bind_some _ _).symm.trans H; with_reducible exact H2_) | with_reducible exact H | (rw [hy132]; exact H) | exact H
   have Ny132 := Aside0.mk hy132
   clear hy132
   have H' := Aside0.mk H
   clear H
   go_wp2_with (first | ((with_reducible refine gate_dst (N := 11) rfl ?_); refine Kd.R_lit (Kd.int .u8) _ 5 ?hg (N := 11) ?hd (xs := ([(Int.tmod x0_1 256) % 256] : List Int)) (inner := [.int .u8 ((Int.tmod x0_1 256) % 256)]) (ok := fun _ => True) (okp := fun _ => True) ?hr ?hp (fun _ hk => hk) trivial (Below.refl _ _) (Nat.le_refl _) (by simp) ?_; (case hd => rfl); (case hg => rfl); (case hr => first | (go_simp; done) | (go_simp; rfl)); (case hp => exact (Reps.one (show Kd.M (Kd.int .u8) _ _ _ ((Int.tmod x0_1 256) % 256) [.int .u8 ((Int.tmod x0_1 256) % 256)] from rfl) (Reps.none _ _))); intro v130 w6 ho7 hb hg_ hnew_; clear hg_ hnew_; (first | rw [← Ny129.out] at ho7 | (simp only [Int.reduceToNat] at ho7; rw [← Ny129.out] at ho7)); have HO131 := as_ (Kd.R_lower (Kd.R_new' ho7 (Kd.R_lt (by (with_reducible repeat (first | apply Kd.R_alloc | apply Kd.R_drewN | apply Kd.R_drew)); exact HO_3.out))) (below_size bA)); replace HO_3 := as_ (Kd.R_elder' (by (with_reducible repeat (first | apply Kd.R_alloc | apply Kd.R_drewN | apply Kd.R_drew)); exact HO_3.out) (Kd.R_base ho7) hb); replace HB := as_ (below_step bA hb); clear hb ho7; obtain ⟨Ao9, co9, eo9⟩ := Kd.R_slice HO_3.out; subst eo9) | ((with_reducible refine gate_builtin (b := .append) (xs := #[.tmp 12, .tmp 13]) rfl ?_); at_builtin; refine Kd.R_append_rows (Kd.int .u8) (w0 := w) w.heap.size rfl (.tmp 12) (.tmp 13) 49 5 (.int .u8 0) 1 rfl Tryd.underlying49 info5 rfl (by decide) (by omega) v130 y129 x3_1 _ _ _ (fun k_ => some k_ ≠ (.slice Ao9 x3_1.length co9 : Value).ownBlock) (fun _ => False) rfl rfl ?aO ?aR (fun _ _ h => h) (fun _ h => h.elim) ?aF ?aB ?aS ?aL ?_; (case aR => repeat (first | exact (Kd.R_reads' HO_3.out).2.2 | (with_reducible refine Kd.C_alloc ?_ _) | (with_reducible refine Kd.C_drewN ?_ _) | (with_reducible refine Kd.C_drew ?_))); (case aB => exact bA); (case aF => exact (fun k_ hk => Kd.fresh' (Kd.R_lt (by (with_reducible repeat (first | apply Kd.R_alloc | apply Kd.R_drewN | apply Kd.R_drew)); exact HO_3.out)) k_ hk)); (case aO => exact (by (with_reducible repeat (first | apply Kd.R_alloc | apply Kd.R_drewN | apply Kd.R_drew)); exact Kd.R_mono HO131.out (fun _ hk => hk.2))); (case aS => exact (below_size bA)); (case aL => have := LMc5.out; omega); intro v133 w8 ho hb hg hat; rw [← Ny132.out] at ho; have HO134 := as_ (ho); replace HO_3 := as_ (Kd.R_after (ok := (fun _ => True)) (by (with_reducible repeat (first | apply Kd.R_alloc | apply Kd.R_drewN | apply Kd.R_drew)); exact HO_3.out) hg hat); replace HB := as_ (hb); clear HO131; clear ho hb hg hat))
   go_roundg k1
   case measure => have := HK1.out; omega
   case rel => exact ⟨(IntKind.u64.wrap (Int.tdiv x0_1 256)), (y132), (by first | rfl | (simp; done) | (simp [*]; done)), H', ⟨by have := HK1.out; omega⟩, ⟨by (with_reducible repeat (first | apply Kd.R_alloc | apply Kd.R_drewN | apply Kd.R_drew)); exact Kd.R_mono HO134.out (fun _ hk => trivial)⟩, ⟨by repeat (first | (with_reducible first | exact HB.out | apply below_alloc | apply pw_below_drewN | apply below_drew1) | exact HB.out)⟩⟩
/-! ### withyref01_Put: function 29 -/
def withyref01_Put.f (k : Nat) (a0 : Int) : Option (ByteArray) := if a0 ≤ 240 then (some (strOfNums (([(a0) % 256] : List Int)))) else (if a0 ≤ 2287 then (some (strOfNums (([(IntKind.u64.wrap (241 + (IntKind.u64.wrap (Int.tdiv (IntKind.u64.wrap (a0 - 240)) 256)))) % 256, (Int.tmod (IntKind.u64.wrap (a0 - 240)) 256) % 256] : List Int)))) else (if a0 ≤ 67823 then (some (strOfNums (([249, (IntKind.u64.wrap (Int.tdiv (IntKind.u64.wrap (a0 - 2288)) 256)) % 256, (Int.tmod (IntKind.u64.wrap (a0 - 2288)) 256) % 256] : List Int)))) else ((withyref01_digits.f k a0).bind fun t144 => ((some (([(wrap64 (247 + (t144.length : Int))) % 256] : List Int) : List Int)).bind fun y147 => (if (strOfNums y147).size + (strOfNums t144).size ≤ 9223372036854775807 then (some ((strOfNums y147) ++ (strOfNums t144))) else (none))))))
theorem withyref01_Put.mono : ∀ a0 k, LeO (withyref01_Put.f k a0) (withyref01_Put.f (k + 1) a0) := by
 intro a0 k
 unfold withyref01_Put.f
 repeat' first
   | (with_reducible exact withyref01_digits.mono _ _)
   | (with_reducible exact LeO.refl _)
   | (with_reducible exact LeO.none _)
   | (with_reducible refine LeO.ite ?_ ?_)
   | (with_reducible refine LeO.bind ?_ (fun _ => ?_))
   | exact withyref01_digits.mono _ _
   | exact LeO.none _
   | refine LeO.ite ?_ ?_
   | refine LeO.bind ?_ (fun _ => ?_)
set_option maxHeartbeats 8000000 in
set_option maxRecDepth 100000 in
theorem withyref01_Put.calls (k : Nat) (a0 : Int) (r : ByteArray) (w : World) (h : withyref01_Put.f k a0 = some r) :
  Calls Tryd.prog 29 #[.int .u64 a0] w fun e w' => e = .returned (.string r) ∧ Below w.heap.size w w' := by
 have HB := as_ (Below.refl w.heap.size w)
 have H : (if a0 ≤ 240 then (some (strOfNums (([(a0) % 256] : List Int)))) else (if a0 ≤ 2287 then (some (strOfNums (([(IntKind.u64.wrap (241 + (IntKind.u64.wrap (Int.tdiv (IntKind.u64.wrap (a0 - 240)) 256)))) % 256, (Int.tmod (IntKind.u64.wrap (a0 - 240)) 256) % 256] : List Int)))) else (if a0 ≤ 67823 then (some (strOfNums (([249, (IntKind.u64.wrap (Int.tdiv (IntKind.u64.wrap (a0 - 2288)) 256)) % 256, (Int.tmod (IntKind.u64.wrap (a0 - 2288)) 256) % 256] : List Int)))) else ((withyref01_digits.f k a0).bind fun t144 => ((some (([(wrap64 (247 + (t144.length : Int))) % 256] : List Int) : List Int)).bind fun y147 => (if (strOfNums y147).size + (strOfNums t144).size ≤ 9223372036854775807 then (some ((strOfNums y147) ++ (strOfNums t144))) else (none))))))) = some r := h
 clear h
 by_cases c2 : a0 ≤ 240
 ·rw [if_pos c2] at H
  have c2b0 : decide (a0 ≤ 240) = true := decide_eq_true c2
  clear c2
  obtain ⟨y135, hy135⟩ : ∃ y_ : List Int, y_ = (([(a0) % 256] : List Int)) := ⟨_, rfl⟩
  replace H : (some (strOfNums y135)) = some r := by first | (rw [hy135]; with_reducible exact H) | (have H2_ := (Option.bind_some _ _).symm.trans H; rw [hy135]; with_reducible exact H2_) | (have H2_ := (Option.bind_some _ _).symm.trans H; with_reducible exact H2_) | with_reducible exact H | (rw [hy135]; exact H) | exact H
  have Ny135 := Aside0.mk hy135
  clear hy135
  obtain rfl := Option.some.inj H
  go_enter Tryd.func29, Tryd.ntmps29
  go_wp2_with (first | ((with_reducible refine gate_dst (N := 8) rfl ?_); refine Kd.R_lit (Kd.int .u8) _ 5 ?hg (N := 8) ?hd (xs := ([(a0) % 256] : List Int)) (inner := [.int .u8 ((a0) % 256)]) (ok := fun _ => True) (okp := fun _ => True) ?hr ?hp (fun _ hk => hk) trivial (Below.refl _ _) (Nat.le_refl _) (by simp) ?_; (case hd => rfl); (case hg => rfl); (case hr => first | (go_simp; done) | (go_simp; rfl)); (case hp => exact (Reps.one (show Kd.M (Kd.int .u8) _ _ _ ((a0) % 256) [.int .u8 ((a0) % 256)] from rfl) (Reps.none _ _))); intro v136 w3 ho4 hb hg_ hnew_; clear hg_ hnew_; (first | rw [← Ny135.out] at ho4 | (simp only [Int.reduceToNat] at ho4; rw [← Ny135.out] at ho4)); have HO137 := as_ (Kd.R_lower ho4 (below_size bA)); replace HB := as_ (below_step bA hb); clear hb ho4; have hcv5 := own_string (P := Tryd.prog) Tryd.underlying49 Tryd.underlying5 Tryd.underlying9 (Kd.own_of_R HO137.out)))
  go_ret
  exact ⟨eW, by repeat (first | (with_reducible first | exact HB.out | apply below_alloc | apply pw_below_drewN | apply below_drew1) | exact HB.out)⟩
 rw [if_neg c2] at H
 have c2b0 : decide (a0 ≤ 240) = false := decide_eq_false c2
 clear c2
 by_cases c6 : a0 ≤ 2287
 ·rw [if_pos c6] at H
  have c6b0 : decide (a0 ≤ 2287) = true := decide_eq_true c6
  clear c6
  obtain ⟨y138, hy138⟩ : ∃ y_ : List Int, y_ = (([(IntKind.u64.wrap (241 + (IntKind.u64.wrap (Int.tdiv (IntKind.u64.wrap (a0 - 240)) 256)))) % 256, (Int.tmod (IntKind.u64.wrap (a0 - 240)) 256) % 256] : List Int)) := ⟨_, rfl⟩
  replace H : (some (strOfNums y138)) = some r := by first | (rw [hy138]; with_reducible exact H) | (have H2_ := (Option.bind_some _ _).symm.trans H; rw [hy138]; with_reducible exact H2_) | (have H2_ := (Option.bind_some _ _).symm.trans H; with_reducible exact H2_) | with_reducible exact H | (rw [hy138]; exact H) | exact H
  have Ny138 := Aside0.mk hy138
  clear hy138
  obtain rfl := Option.some.inj H
  go_enter Tryd.func29, Tryd.ntmps29
  go_wp2_with (first | ((with_reducible refine gate_dst (N := 21) rfl ?_); refine Kd.R_lit (Kd.int .u8) _ 5 ?hg (N := 21) ?hd (xs := ([(IntKind.u64.wrap (241 + (IntKind.u64.wrap (Int.tdiv (IntKind.u64.wrap (a0 - 240)) 256)))) % 256, (Int.tmod (IntKind.u64.wrap (a0 - 240)) 256) % 256] : List Int)) (inner := [.int .u8 ((IntKind.u64.wrap (241 + (IntKind.u64.wrap (Int.tdiv (IntKind.u64.wrap (a0 - 240)) 256)))) % 256), .int .u8 ((Int.tmod (IntKind.u64.wrap (a0 - 240)) 256) % 256)]) (ok := fun _ => True) (okp := fun _ => True) ?hr ?hp (fun _ hk => hk) trivial (Below.refl _ _) (Nat.le_refl _) (by simp) ?_; (case hd => rfl); (case hg => rfl); (case hr => first | (go_simp; done) | (go_simp; rfl)); (case hp => exact (Reps.one (show Kd.M (Kd.int .u8) _ _ _ ((IntKind.u64.wrap (241 + (IntKind.u64.wrap (Int.tdiv (IntKind.u64.wrap (a0 - 240)) 256)))) % 256) [.int .u8 ((IntKind.u64.wrap (241 + (IntKind.u64.wrap (Int.tdiv (IntKind.u64.wrap (a0 - 240)) 256)))) % 256)] from rfl) (Reps.one (show Kd.M (Kd.int .u8) _ _ _ ((Int.tmod (IntKind.u64.wrap (a0 - 240)) 256) % 256) [.int .u8 ((Int.tmod (IntKind.u64.wrap (a0 - 240)) 256) % 256)] from rfl) (Reps.none _ _)))); intro v139 w7 ho8 hb hg_ hnew_; clear hg_ hnew_; (first | rw [← Ny138.out] at ho8 | (simp only [Int.reduceToNat] at ho8; rw [← Ny138.out] at ho8)); have HO140 := as_ (Kd.R_lower ho8 (below_size bA)); replace HB := as_ (below_step bA hb); clear hb ho8; have hcv9 := own_string (P := Tryd.prog) Tryd.underlying49 Tryd.underlying5 Tryd.underlying9 (Kd.own_of_R HO140.out)))
  go_ret
  exact ⟨eW, by repeat (first | (with_reducible first | exact HB.out | apply below_alloc | apply pw_below_drewN | apply below_drew1) | exact HB.out)⟩
 rw [if_neg c6] at H
 have c6b0 : decide (a0 ≤ 2287) = false := decide_eq_false c6
 clear c6
 by_cases c10 : a0 ≤ 67823
 ·rw [if_pos c10] at H
  have c10b0 : decide (a0 ≤ 67823) = true := decide_eq_true c10
  clear c10
  obtain ⟨y141, hy141⟩ : ∃ y_ : List Int, y_ = (([249, (IntKind.u64.wrap (Int.tdiv (IntKind.u64.wrap (a0 - 2288)) 256)) % 256, (Int.tmod (IntKind.u64.wrap (a0 - 2288)) 256) % 256] : List Int)) := ⟨_, rfl⟩
  replace H : (some (strOfNums y141)) = some r := by first | (rw [hy141]; with_reducible exact H) | (have H2_ := (Option.bind_some _ _).symm.trans H; rw [hy141]; with_reducible exact H2_) | (have H2_ := (Option.bind_some _ _).symm.trans H; with_reducible exact H2_) | with_reducible exact H | (rw [hy141]; exact H) | exact H
  have Ny141 := Aside0.mk hy141
  clear hy141
  obtain rfl := Option.some.inj H
  go_enter Tryd.func29, Tryd.ntmps29
  go_wp2_with (first | ((with_reducible refine gate_dst (N := 33) rfl ?_); refine Kd.R_lit (Kd.int .u8) _ 5 ?hg (N := 33) ?hd (xs := ([249, (IntKind.u64.wrap (Int.tdiv (IntKind.u64.wrap (a0 - 2288)) 256)) % 256, (Int.tmod (IntKind.u64.wrap (a0 - 2288)) 256) % 256] : List Int)) (inner := [.int .u8 249, .int .u8 ((IntKind.u64.wrap (Int.tdiv (IntKind.u64.wrap (a0 - 2288)) 256)) % 256), .int .u8 ((Int.tmod (IntKind.u64.wrap (a0 - 2288)) 256) % 256)]) (ok := fun _ => True) (okp := fun _ => True) ?hr ?hp (fun _ hk => hk) trivial (Below.refl _ _) (Nat.le_refl _) (by simp) ?_; (case hd => rfl); (case hg => rfl); (case hr => first | (go_simp; done) | (go_simp; rfl)); (case hp => exact (Reps.one (show Kd.M (Kd.int .u8) _ _ _ 249 [.int .u8 249] from rfl) (Reps.one (show Kd.M (Kd.int .u8) _ _ _ ((IntKind.u64.wrap (Int.tdiv (IntKind.u64.wrap (a0 - 2288)) 256)) % 256) [.int .u8 ((IntKind.u64.wrap (Int.tdiv (IntKind.u64.wrap (a0 - 2288)) 256)) % 256)] from rfl) (Reps.one (show Kd.M (Kd.int .u8) _ _ _ ((Int.tmod (IntKind.u64.wrap (a0 - 2288)) 256) % 256) [.int .u8 ((Int.tmod (IntKind.u64.wrap (a0 - 2288)) 256) % 256)] from rfl) (Reps.none _ _))))); intro v142 w11 ho12 hb hg_ hnew_; clear hg_ hnew_; (first | rw [← Ny141.out] at ho12 | (simp only [Int.reduceToNat] at ho12; rw [← Ny141.out] at ho12)); have HO143 := as_ (Kd.R_lower ho12 (below_size bA)); replace HB := as_ (below_step bA hb); clear hb ho12; have hcv13 := own_string (P := Tryd.prog) Tryd.underlying49 Tryd.underlying5 Tryd.underlying9 (Kd.own_of_R HO143.out)))
  go_ret
  exact ⟨eW, by repeat (first | (with_reducible first | exact HB.out | apply below_alloc | apply pw_below_drewN | apply below_drew1) | exact HB.out)⟩
 rw [if_neg c10] at H
 have c10b0 : decide (a0 ≤ 67823) = false := decide_eq_false c10
 clear c10
 replace H := bM H
 obtain ⟨t144, A140, H⟩ := H
 replace H : ((some (([(wrap64 (247 + (t144.length : Int))) % 256] : List Int) : List Int)).bind fun y147 => (if (strOfNums y147).size + (strOfNums t144).size ≤ 9223372036854775807 then (some ((strOfNums y147) ++ (strOfNums t144))) else (none))) = some r := H
 have A14 := Aside0.mk A140
 clear A140
 obtain ⟨y147, hy147⟩ : ∃ y_ : List Int, y_ = (([(wrap64 (247 + (t144.length : Int))) % 256] : List Int)) := ⟨_, rfl⟩
 replace H : (if (strOfNums y147).size + (strOfNums t144).size ≤ 9223372036854775807 then (some ((strOfNums y147) ++ (strOfNums t144))) else (none)) = some r := by first | (rw [hy147]; with_reducible exact H) | (have H2_ := (Option.bind_some _ _).symm.trans H; rw [hy147]; with_reducible exact H2_) | (have H2_ := (Option.bind_some _ _).symm.trans H; with_reducible exact H2_) | with_reducible exact H | (rw [hy147]; exact H) | exact H
 have Ny147 := Aside0.mk hy147
 clear hy147
 by_cases c15 : (strOfNums y147).size + (strOfNums t144).size ≤ 9223372036854775807
 rotate_left
 ·rw [if_neg c15] at H
  exact absurd H (by simp)
 
 rw [if_pos c15] at H
 have c15b0 := eq_true c15
 have c15b1 : decide ((strOfNums y147).size + (strOfNums t144).size ≤ 9223372036854775807) = true := decide_eq_true c15
 try have c15b2 : (9223372036854775807 < (strOfNums y147).size + (strOfNums t144).size) = False := eq_false (Nat.not_lt.2 c15)
 obtain ⟨js16, hjs16⟩ : ∃ j_ : ByteArray, ((strOfNums y147) ++ (strOfNums t144)) = j_ := ⟨_, rfl⟩
 replace H : (some js16) = some r := by first | (rw [hjs16] at H; exact H) | (simp only [hjs16] at H ⊢; exact H)
 (try rw [hjs16] at A14)
 obtain rfl := Option.some.inj H
 go_enter Tryd.func29, Tryd.ntmps29
 go_wp2_with (first | ((with_reducible refine gate_callee (f := 43) rfl ?_); refine goesL_ (some 36) rfl rfl Tryd.func43 (by kernel_rfl) rfl #[.int .u64 a0] rfl aO ?_; (with_reducible refine (withyref01_digits.calls k a0 t144 _ A14.out).mono ?_); rintro e w17 ⟨v145, rfl, ho0, hb⟩; refine ⟨_, rfl, ?_⟩; have HO146 := as_ (Kd.R_lower ho0 (below_size bA)); replace HB := as_ (below_step bA hb); (try clear hb); (try clear hb2); (try clear hk); (try clear hi); (try clear ho0); obtain ⟨Ao18, co18, eo18⟩ := Kd.R_slice HO146.out; subst eo18) | ((with_reducible refine gate_dst (N := 41) rfl ?_); refine Kd.R_lit (Kd.int .u8) _ 5 ?hg (N := 41) ?hd (xs := ([(wrap64 (247 + (t144.length : Int))) % 256] : List Int)) (inner := [.int .u8 ((wrap64 (247 + (t144.length : Int))) % 256)]) (ok := fun _ => True) (okp := fun _ => True) ?hr ?hp (fun _ hk => hk) trivial (Below.refl _ _) (Nat.le_refl _) (by simp) ?_; (case hd => rfl); (case hg => rfl); (case hr => first | (go_simp; done) | (go_simp; rfl)); (case hp => exact (Reps.one (show Kd.M (Kd.int .u8) _ _ _ ((wrap64 (247 + (t144.length : Int))) % 256) [.int .u8 ((wrap64 (247 + (t144.length : Int))) % 256)] from rfl) (Reps.none _ _))); intro v148 w19 ho20 hb hg_ hnew_; clear hg_ hnew_; (first | rw [← Ny147.out] at ho20 | (simp only [Int.reduceToNat] at ho20; rw [← Ny147.out] at ho20)); have HO149 := as_ (Kd.R_lower (Kd.R_new' ho20 (Kd.R_lt (by (with_reducible repeat (first | apply Kd.R_alloc | apply Kd.R_drewN | apply Kd.R_drew)); exact HO146.out))) (below_size bA)); replace HO146 := as_ (Kd.R_elder' (by (with_reducible repeat (first | apply Kd.R_alloc | apply Kd.R_drewN | apply Kd.R_drew)); exact HO146.out) (Kd.R_base ho20) hb); replace HB := as_ (below_step bA hb); clear hb ho20; have hcv21 := own_string (P := Tryd.prog) Tryd.underlying49 Tryd.underlying5 Tryd.underlying9 (Kd.own_of_R HO149.out); have hcv22 := own_string (P := Tryd.prog) Tryd.underlying49 Tryd.underlying5 Tryd.underlying9 (Kd.own_of_R HO146.out)))
 go_ret
 exact ⟨by first | rfl | (simp [errW_none, errW_some] <;> rfl) | (simp only [← hjs16]; first | rfl | (simp [errW_none, errW_some] <;> rfl)) | (simp [*, errW_none, errW_some] <;> rfl), by repeat (first | (with_reducible first | exact HB.out | apply below_alloc | apply pw_below_drewN | apply below_drew1) | exact HB.out)⟩
end Go.Proofs.YtjfgeppfkhaliaaDoor.P
