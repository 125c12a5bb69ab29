/- What is proved here: for functions of the Go text, a Lean function each, and that the call comes to just what it answers. Conditions: as each contract names them. Written by wip/tools/myprint.py, a driver of the print of the kit. -/
import Derived.Test.YtnfnmjjdcaphjaaP0
import Derived.Test.YtnfnmjjdcaphjaaP2
import Derived.Test.YtnfnmjjdcaphjaaP4
import Derived.Test.YtnfnmjjdcaphjaaWAbbr
namespace Go.Proofs.Ytnfnmjjdcaphjaa.P
open Go.RowKit Go.Proofs.YtnfnmjjdcaphjaaW.PrintWords Go.Proofs.YtnfnmjjdcaphjaaW.PrintLast Go.Proofs.YtnfnmjjdcaphjaaW.PrintMore Go.Proofs.YtnfnmjjdcaphjaaW.Abbr
-- PACKED
attribute [local go_sem] max2_int min2_int max_two min_two max_three min_three max_four min_four Go.Proofs.YtnfnmjjdcaphjaaLaws.str_leq Go.Proofs.YtnfnmjjdcaphjaaLaws.str_gtr Go.Proofs.YtnfnmjjdcaphjaaLaws.str_geq Go.Proofs.YtnfnmjjdcaphjaaLaws.max2_str Go.Proofs.YtnfnmjjdcaphjaaLaws.min2_str   -- for this text's walks alone
set_option linter.unusedVariables false
set_option linter.unusedSimpArgs false

/-! ### head_Open: function 12 -/
def head_Open.f (k : Nat) (a0 : ByteArray) : Option (Int × Int × Int × Int × Int × ByteArray × Int) := (disk_Size.f (a0.size : Int)).bind fun t143 => (if t143 = true then ((word_Read.f k a0 4).bind fun bt144 => ((word_Read.f k a0 8).bind fun bt146 => (if 0 < (a0.size : Int) then (if 1 < (a0.size : Int) then (if 2 < (a0.size : Int) then (if 3 < (a0.size : Int) then (if 16 ≤ (a0.size : Int) then ((head_Seal.f k (wrap64 (bt a0 0)) (wrap64 (bt a0 1)) (wrap64 ((wrap64 (bt a0 2)) + (wrap64 (256 * (wrap64 (bt a0 3)))))) (wrap64 (bt144.1)) (wrap64 (bt146.1)) (a0.extract 16 a0.size) (a0.size : Int)).bind fun bt149 => (if bt149.2 = 0 then (if bt149.1.toList = a0.toList then (some (wrap64 (bt a0 0), wrap64 (bt a0 1), wrap64 ((wrap64 (bt a0 2)) + (wrap64 (256 * (wrap64 (bt a0 3))))), wrap64 (bt144.1), wrap64 (bt146.1), a0.extract 16 a0.size, 0)) else (some (0, 0, 0, 0, 0, (⟨#[]⟩ : ByteArray), 3))) else (some (0, 0, 0, 0, 0, (⟨#[]⟩ : ByteArray), 3)))) else (none)) else (none)) else (none)) else (none)) else (none)))) else (some (0, 0, 0, 0, 0, (⟨#[]⟩ : ByteArray), 3)))
theorem head_Open.mono : ∀ a0 k, LeO (head_Open.f k a0) (head_Open.f (k + 1) a0) := by
 intro a0 k
 unfold head_Open.f
 repeat' first
   | (with_reducible exact head_Seal.mono _ _ _ _ _ _ _ _)
   | (with_reducible exact word_Read.mono _ _ _)
   | (with_reducible exact LeO.refl _)
   | (with_reducible exact LeO.none _)
   | (with_reducible refine LeO.ite ?_ ?_)
   | (with_reducible refine LeO.bind ?_ (fun _ => ?_))
   | exact head_Seal.mono _ _ _ _ _ _ _ _
   | exact word_Read.mono _ _ _
   | exact LeO.none _
   | refine LeO.ite ?_ ?_
   | refine LeO.bind ?_ (fun _ => ?_)
def head_Open.T5 : Bool × List (List Nat × List Nat) := (true, [([], []), ([0], [0]), ([1], [1]), ([], []), ([3], [3]), ([4], [4]), ([], []), ([6], [6]), ([7], [7]), ([], []), ([9], [9]), ([10], [10]), ([11], [11]), ([8, 12], [8, 12]), ([], []), ([14], [14]), ([], []), ([16], [16]), ([2, 5, 13, 15, 17], [2, 5, 13, 15, 17]), ([], []), ([19, 18, 0, 1, 2, 3, 4, 5, 6, 7, 8, 9, 10, 11, 12, 13, 14, 15, 16, 17, 18, 19], [18, 19])])
def head_Open.B5 : List Nat := [0, 1, 3, 0, 8, 24, 0, 64, 192, 0, 512, 1536, 3584, 8128, 0, 16384, 0, 65536, 262143, 0, 1048575]
theorem head_Open.tab5 : rtab .any (opsOf Try.f12 5) = head_Open.T5 := by kernel_rfl
theorem head_Open.bits5 : waitsOk head_Open.T5.2 head_Open.B5 = true := by kernel_rfl
def head_Open.T6 : Bool × List (List Nat × List Nat) := (true, [([], []), ([], []), ([1], [1]), ([], []), ([3], [3]), ([0, 2, 4], [0, 2, 4]), ([5], [5]), ([6], [6]), ([6], [6]), ([7, 5, 0, 1, 2, 3, 4, 5, 6, 7], [7]), ([8, 9, 0, 1, 2, 3, 4, 5, 6, 7, 8, 9], [8])])
def head_Open.B6 : List Nat := [0, 0, 2, 0, 8, 31, 63, 127, 127, 255, 1023]
theorem head_Open.tab6 : rtab .any (opsOf Try.f12 6) = head_Open.T6 := by kernel_rfl
theorem head_Open.bits6 : waitsOk head_Open.T6.2 head_Open.B6 = true := by kernel_rfl
set_option maxHeartbeats 8000000 in
set_option maxRecDepth 100000 in
theorem head_Open.calls (k : Nat) (a0 : ByteArray) (r1 : Int) (r2 : Int) (r3 : Int) (r4 : Int) (r5 : Int) (r6 : ByteArray) (r7 : Int) (w : World) (h : head_Open.f k a0 = some (r1, r2, r3, r4, r5, r6, r7)) :
  Calls Try.prog 12 #[.string a0] w fun e w' => e = .returned (.tuple #[.agg #[.int .i64 r1, .int .i64 r2, .int .i64 r3, .int .i64 r4, .int .i64 r5], .string r6, .int .i64 r7]) ∧ Below w.heap.size w w' := by
 have hu23 := Try.underlying23
 have HB := as_ (Below.refl w.heap.size w)
 have H : ((disk_Size.f (a0.size : Int)).bind fun t143 => (if t143 = true then ((word_Read.f k a0 4).bind fun bt144 => ((word_Read.f k a0 8).bind fun bt146 => (if 0 < (a0.size : Int) then (if 1 < (a0.size : Int) then (if 2 < (a0.size : Int) then (if 3 < (a0.size : Int) then (if 16 ≤ (a0.size : Int) then ((head_Seal.f k (wrap64 (bt a0 0)) (wrap64 (bt a0 1)) (wrap64 ((wrap64 (bt a0 2)) + (wrap64 (256 * (wrap64 (bt a0 3)))))) (wrap64 (bt144.1)) (wrap64 (bt146.1)) (a0.extract 16 a0.size) (a0.size : Int)).bind fun bt149 => (if bt149.2 = 0 then (if bt149.1.toList = a0.toList then (some (wrap64 (bt a0 0), wrap64 (bt a0 1), wrap64 ((wrap64 (bt a0 2)) + (wrap64 (256 * (wrap64 (bt a0 3))))), wrap64 (bt144.1), wrap64 (bt146.1), a0.extract 16 a0.size, 0)) else (some (0, 0, 0, 0, 0, (⟨#[]⟩ : ByteArray), 3))) else (some (0, 0, 0, 0, 0, (⟨#[]⟩ : ByteArray), 3)))) else (none)) else (none)) else (none)) else (none)) else (none)))) else (some (0, 0, 0, 0, 0, (⟨#[]⟩ : ByteArray), 3)))) = some (r1, r2, r3, r4, r5, r6, r7) := h
 clear h
 replace H := bM H
 obtain ⟨t143, A20, H⟩ := H
 replace H : (if t143 = true then ((word_Read.f k a0 4).bind fun bt144 => ((word_Read.f k a0 8).bind fun bt146 => (if 0 < (a0.size : Int) then (if 1 < (a0.size : Int) then (if 2 < (a0.size : Int) then (if 3 < (a0.size : Int) then (if 16 ≤ (a0.size : Int) then ((head_Seal.f k (wrap64 (bt a0 0)) (wrap64 (bt a0 1)) (wrap64 ((wrap64 (bt a0 2)) + (wrap64 (256 * (wrap64 (bt a0 3)))))) (wrap64 (bt144.1)) (wrap64 (bt146.1)) (a0.extract 16 a0.size) (a0.size : Int)).bind fun bt149 => (if bt149.2 = 0 then (if bt149.1.toList = a0.toList then (some (wrap64 (bt a0 0), wrap64 (bt a0 1), wrap64 ((wrap64 (bt a0 2)) + (wrap64 (256 * (wrap64 (bt a0 3))))), wrap64 (bt144.1), wrap64 (bt146.1), a0.extract 16 a0.size, 0)) else (some (0, 0, 0, 0, 0, (⟨#[]⟩ : ByteArray), 3))) else (some (0, 0, 0, 0, 0, (⟨#[]⟩ : ByteArray), 3)))) else (none)) else (none)) else (none)) else (none)) else (none)))) else (some (0, 0, 0, 0, 0, (⟨#[]⟩ : ByteArray), 3))) = some (r1, r2, r3, r4, r5, r6, r7) := H
 have A2 := Aside0.mk A20
 clear A20
 by_cases c3 : t143 = true
 rotate_left
 ·replace c3 := Bool.eq_false_iff.mpr c3
  subst c3
  have H1 : (some (0, 0, 0, 0, 0, (⟨#[]⟩ : ByteArray), 3)) = some (r1, r2, r3, r4, r5, r6, r7) := by rw [if_neg (show ¬ (false = true) by decide)] at H; exact H
  clear H
  have H := H1
  clear H1
  simp only [Option.some.injEq, Prod.mk.injEq] at H
  obtain ⟨rfl, rfl, rfl, rfl, rfl, rfl, rfl⟩ := H
  go_enter Try.func12, Try.ntmps12
  go_wp2_with (first | ((with_reducible refine gate_dst (N := 2) rfl ?_); refine box_event (by rfl) (N := 2) (by rfl) (cs := #[.int .i64 0, .int .i64 0, .int .i64 0, .int .i64 0, .int .i64 0]) (t := 23) gS ?_; intro gb142 hg w66 hbox hb; have BK142 := as_ (hbox); have GW142 := gw hg bA; have GE142 := gw hg bA; replace HB := as_ (below_step bA hb); clear hb hbox hg) | ((with_reducible refine gate_callee (f := 28) rfl ?_); refine goesL_ (some 14) rfl rfl Try.func28 (by kernel_rfl) rfl #[.int .i64 (a0.size : Int)] rfl aO ?_; (with_reducible refine (disk_Size.calls (a0.size : Int) false _ A2.out).mono ?_); rintro e w67 ⟨rfl, hb⟩; refine ⟨_, rfl, ?_⟩; replace BK142 := bb BK142 hb; replace HB := as_ (below_step bA hb); (try clear hb); (try clear hb2); (try clear hk); (try clear hi); obtain ⟨hcz68_0, hcz68_1, hcz68_2, hcz68_3, hcz68_4⟩ := zc5 BK142; obtain ⟨hfz68_0, hfz68_1, hfz68_2, hfz68_3, hfz68_4⟩ := zf5 BK142))
  refine bodyPost_ret (results_ctt rfl _ _ gb142 23 #[.int .i64 0, .int .i64 0, .int .i64 0, .int .i64 0, .int .i64 0] (0, 0) _ rfl (by refine bx ?_; refine blk_put (cs := #[.int .i64 0, .int .i64 0, .int .i64 0, .int .i64 0, .int .i64 0]) ?_ 4 _ rfl; refine bx ?_; refine blk_put (cs := #[.int .i64 0, .int .i64 0, .int .i64 0, .int .i64 0, .int .i64 0]) ?_ 3 _ rfl; refine bx ?_; refine blk_put (cs := #[.int .i64 0, .int .i64 0, .int .i64 0, .int .i64 0, .int .i64 0]) ?_ 2 _ rfl; refine bx ?_; refine blk_put (cs := #[.int .i64 0, .int .i64 0, .int .i64 0, .int .i64 0, .int .i64 0]) ?_ 1 _ rfl; refine bx ?_; refine blk_put (cs := #[.int .i64 0, .int .i64 0, .int .i64 0, .int .i64 0, .int .i64 0]) ?_ 0 _ rfl; refine bx ?_; exact BK142.out) Try.underlying23 rfl (by kernel_rfl)) rfl ?_
  exact ⟨eW, by repeat (first | (with_reducible first | exact HB.out | apply below_alloc | apply pw_below_drewN | apply below_drew1 | refine below_set ?_ GE142.out) | exact HB.out)⟩
 
 subst c3
 have H1 : ((word_Read.f k a0 4).bind fun bt144 => ((word_Read.f k a0 8).bind fun bt146 => (if 0 < (a0.size : Int) then (if 1 < (a0.size : Int) then (if 2 < (a0.size : Int) then (if 3 < (a0.size : Int) then (if 16 ≤ (a0.size : Int) then ((head_Seal.f k (wrap64 (bt a0 0)) (wrap64 (bt a0 1)) (wrap64 ((wrap64 (bt a0 2)) + (wrap64 (256 * (wrap64 (bt a0 3)))))) (wrap64 (bt144.1)) (wrap64 (bt146.1)) (a0.extract 16 a0.size) (a0.size : Int)).bind fun bt149 => (if bt149.2 = 0 then (if bt149.1.toList = a0.toList then (some (wrap64 (bt a0 0), wrap64 (bt a0 1), wrap64 ((wrap64 (bt a0 2)) + (wrap64 (256 * (wrap64 (bt a0 3))))), wrap64 (bt144.1), wrap64 (bt146.1), a0.extract 16 a0.size, 0)) else (some (0, 0, 0, 0, 0, (⟨#[]⟩ : ByteArray), 3))) else (some (0, 0, 0, 0, 0, (⟨#[]⟩ : ByteArray), 3)))) else (none)) else (none)) else (none)) else (none)) else (none)))) = some (r1, r2, r3, r4, r5, r6, r7) := by rw [if_pos rfl] at H; exact H
 clear H
 have H := H1
 clear H1
 replace H := bM H
 obtain ⟨⟨t144, t145⟩, A40, H⟩ := H
 replace H : ((word_Read.f k a0 8).bind fun bt146 => (if 0 < (a0.size : Int) then (if 1 < (a0.size : Int) then (if 2 < (a0.size : Int) then (if 3 < (a0.size : Int) then (if 16 ≤ (a0.size : Int) then ((head_Seal.f k (wrap64 (bt a0 0)) (wrap64 (bt a0 1)) (wrap64 ((wrap64 (bt a0 2)) + (wrap64 (256 * (wrap64 (bt a0 3)))))) (wrap64 (t144)) (wrap64 (bt146.1)) (a0.extract 16 a0.size) (a0.size : Int)).bind fun bt149 => (if bt149.2 = 0 then (if bt149.1.toList = a0.toList then (some (wrap64 (bt a0 0), wrap64 (bt a0 1), wrap64 ((wrap64 (bt a0 2)) + (wrap64 (256 * (wrap64 (bt a0 3))))), wrap64 (t144), wrap64 (bt146.1), a0.extract 16 a0.size, 0)) else (some (0, 0, 0, 0, 0, (⟨#[]⟩ : ByteArray), 3))) else (some (0, 0, 0, 0, 0, (⟨#[]⟩ : ByteArray), 3)))) else (none)) else (none)) else (none)) else (none)) else (none))) = some (r1, r2, r3, r4, r5, r6, r7) := H
 have A4 := Aside0.mk A40
 clear A40
 replace H := bM H
 obtain ⟨⟨t146, t147⟩, A50, H⟩ := H
 replace H : (if 0 < (a0.size : Int) then (if 1 < (a0.size : Int) then (if 2 < (a0.size : Int) then (if 3 < (a0.size : Int) then (if 16 ≤ (a0.size : Int) then ((head_Seal.f k (wrap64 (bt a0 0)) (wrap64 (bt a0 1)) (wrap64 ((wrap64 (bt a0 2)) + (wrap64 (256 * (wrap64 (bt a0 3)))))) (wrap64 (t144)) (wrap64 (t146)) (a0.extract 16 a0.size) (a0.size : Int)).bind fun bt149 => (if bt149.2 = 0 then (if bt149.1.toList = a0.toList then (some (wrap64 (bt a0 0), wrap64 (bt a0 1), wrap64 ((wrap64 (bt a0 2)) + (wrap64 (256 * (wrap64 (bt a0 3))))), wrap64 (t144), wrap64 (t146), a0.extract 16 a0.size, 0)) else (some (0, 0, 0, 0, 0, (⟨#[]⟩ : ByteArray), 3))) else (some (0, 0, 0, 0, 0, (⟨#[]⟩ : ByteArray), 3)))) else (none)) else (none)) else (none)) else (none)) else (none)) = some (r1, r2, r3, r4, r5, r6, r7) := H
 have A5 := Aside0.mk A50
 clear A50
 by_cases c6 : 0 < (a0.size : Int)
 rotate_left
 ·rw [if_neg c6] at H
  exact absurd H (by simp)
 rw [if_pos c6] at H
 have c6b0 : decide (0 < (a0.size : Int)) = true := decide_eq_true c6
 have c6b1 : decide (0 < a0.size) = true := decide_eq_true (by omega)
 clear c6
 by_cases c8 : 1 < (a0.size : Int)
 rotate_left
 ·rw [if_neg c8] at H
  exact absurd H (by simp)
 rw [if_pos c8] at H
 have c8b0 : decide (1 < (a0.size : Int)) = true := decide_eq_true c8
 have c8b1 : decide (1 < a0.size) = true := decide_eq_true (by omega)
 clear c8
 by_cases c10 : 2 < (a0.size : Int)
 rotate_left
 ·rw [if_neg c10] at H
  exact absurd H (by simp)
 rw [if_pos c10] at H
 have c10b0 : decide (2 < (a0.size : Int)) = true := decide_eq_true c10
 have c10b1 : decide (2 < a0.size) = true := decide_eq_true (by omega)
 clear c10
 by_cases c12 : 3 < (a0.size : Int)
 rotate_left
 ·rw [if_neg c12] at H
  exact absurd H (by simp)
 rw [if_pos c12] at H
 have c12b0 : decide (3 < (a0.size : Int)) = true := decide_eq_true c12
 have c12b1 : decide (3 < a0.size) = true := decide_eq_true (by omega)
 clear c12
 by_cases c14 : 16 ≤ (a0.size : Int)
 rotate_left
 ·rw [if_neg c14] at H
  exact absurd H (by simp)
 rw [if_pos c14] at H
 have c14b0 := eq_true c14
 have c14b1 : decide (16 ≤ (a0.size : Int)) = true := decide_eq_true c14
 clear c14
 obtain ⟨js15, hjs15⟩ : ∃ j_ : ByteArray, (a0.extract 16 a0.size) = j_ := ⟨_, rfl⟩
 replace H : ((head_Seal.f k (wrap64 (bt a0 0)) (wrap64 (bt a0 1)) (wrap64 ((wrap64 (bt a0 2)) + (wrap64 (256 * (wrap64 (bt a0 3)))))) (wrap64 (t144)) (wrap64 (t146)) (js15) (a0.size : Int)).bind fun bt149 => (if bt149.2 = 0 then (if bt149.1.toList = a0.toList then (some (wrap64 (bt a0 0), wrap64 (bt a0 1), wrap64 ((wrap64 (bt a0 2)) + (wrap64 (256 * (wrap64 (bt a0 3))))), wrap64 (t144), wrap64 (t146), js15, 0)) else (some (0, 0, 0, 0, 0, (⟨#[]⟩ : ByteArray), 3))) else (some (0, 0, 0, 0, 0, (⟨#[]⟩ : ByteArray), 3)))) = some (r1, r2, r3, r4, r5, r6, r7) := by first | (rw [hjs15] at H; exact H) | (simp only [hjs15] at H ⊢; exact H)
 (try rw [hjs15] at A2)
 (try rw [hjs15] at A4)
 (try rw [hjs15] at A5)
 replace H := bM H
 obtain ⟨⟨t149, t150⟩, A160, H⟩ := H
 replace H : (if t150 = 0 then (if t149.toList = a0.toList then (some (wrap64 (bt a0 0), wrap64 (bt a0 1), wrap64 ((wrap64 (bt a0 2)) + (wrap64 (256 * (wrap64 (bt a0 3))))), wrap64 (t144), wrap64 (t146), js15, 0)) else (some (0, 0, 0, 0, 0, (⟨#[]⟩ : ByteArray), 3))) else (some (0, 0, 0, 0, 0, (⟨#[]⟩ : ByteArray), 3))) = some (r1, r2, r3, r4, r5, r6, r7) := H
 have A16 := Aside0.mk A160
 clear A160
 by_cases c17 : t150 = 0
 rotate_left
 ·rw [if_neg c17] at H
  have c17b0 : (t150 == 0) = false := beq_eq_false_iff_ne.mpr c17
  have c17b1 : (t150 != 0) = true := bne_iff_ne.mpr c17
  simp only [Option.some.injEq, Prod.mk.injEq] at H
  obtain ⟨rfl, rfl, rfl, rfl, rfl, rfl, rfl⟩ := H
  go_enter Try.func12, Try.ntmps12
  try go_wp2_with (first | ((with_reducible refine gate_dst (N := 2) rfl ?_); refine box_event (by rfl) (N := 2) (by rfl) (cs := #[.int .i64 0, .int .i64 0, .int .i64 0, .int .i64 0, .int .i64 0]) (t := 23) gS ?_; intro gb142 hg w52 hbox hb; have BK142 := as_ (hbox); have GW142 := gw hg bA; have GE142 := gw hg bA; replace HB := as_ (below_step bA hb); clear hb hbox hg) | ((with_reducible refine gate_callee (f := 28) rfl ?_); refine goesL_ (some 14) rfl rfl Try.func28 (by kernel_rfl) rfl #[.int .i64 (a0.size : Int)] rfl aO ?_; (with_reducible refine (disk_Size.calls (a0.size : Int) true _ A2.out).mono ?_); rintro e w53 ⟨rfl, hb⟩; refine ⟨_, rfl, ?_⟩; replace BK142 := bb BK142 hb; replace HB := as_ (below_step bA hb); (try clear hb); (try clear hb2); (try clear hk); (try clear hi)) | ((with_reducible refine gate_callee (f := 29) rfl ?_); refine goesL_ (some 19) rfl rfl Try.func29 (by kernel_rfl) rfl #[.string a0, .int .i64 4] rfl aO ?_; (with_reducible refine (word_Read.calls k a0 4 t144 t145 _ A4.out).mono ?_); rintro e w' ⟨rfl, ⟨nd, rfl⟩⟩; refine ⟨_, rfl, ?_⟩; (try (rw [drewN_self w53]; generalize hq_ : World.drewN w53 _ = w53; have n0_ : Aside0 (w53.heap[gb142]? = some (.cells #[.int .i64 0, .int .i64 0, .int .i64 0, .int .i64 0, .int .i64 0] 23 (0, 0))) := ⟨by rw [← hq_]; exact (bk BK142)⟩; have n1_ : Aside0 (Below w.heap.size w w53) := ⟨by rw [← hq_]; exact bA⟩; clear BK142 HB hq_; have BK142 := n0_; have HB := n1_; clear n0_ n1_))) | ((with_reducible refine gate_callee (f := 29) rfl ?_); refine goesL_ (some 24) rfl rfl Try.func29 (by kernel_rfl) rfl #[.string a0, .int .i64 8] rfl aO ?_; (with_reducible refine (word_Read.calls k a0 8 t146 t147 _ A5.out).mono ?_); rintro e w' ⟨rfl, ⟨nd, rfl⟩⟩; refine ⟨_, rfl, ?_⟩; (try (rw [drewN_self w53]; generalize hq_ : World.drewN w53 _ = w53; have n0_ : Aside0 (w53.heap[gb142]? = some (.cells #[.int .i64 0, .int .i64 0, .int .i64 0, .int .i64 0, .int .i64 0] 23 (0, 0))) := ⟨by rw [← hq_]; exact (bk BK142)⟩; have n1_ : Aside0 (Below w.heap.size w w53) := ⟨by rw [← hq_]; exact bA⟩; clear BK142 HB hq_; have BK142 := n0_; have HB := n1_; clear n0_ n1_))))
  replace BK142 := as_ (blk_drew BK142.out)
  replace HB := as_ (below_drew1 HB.out)
  have p7 : 0 ≤ (0 : Int) := (by omega)
  have q7 : 0 < a0.size := (by have : (0 : Int) < (a0.size : Int) := of_decide_eq_true aM; omega)
  have hx7 : ∀ h : 0 < a0.size, ((a0[0]'h).toNat : Int) = bt a0 0 := bt_at a0 0
  clear p7
  have qi7 : (0 < (a0.size : Int)) = True := eq_true (of_decide_eq_true aM)
  replace q7 := eq_true q7
  have p9 : 0 ≤ (1 : Int) := (by omega)
  have q9 : 1 < a0.size := (by have : (1 : Int) < (a0.size : Int) := of_decide_eq_true aM; omega)
  have hx9 : ∀ h : 1 < a0.size, ((a0[1]'h).toNat : Int) = bt a0 1 := bt_at a0 1
  clear p9
  have qi9 : (1 < (a0.size : Int)) = True := eq_true (of_decide_eq_true aM)
  replace q9 := eq_true q9
  have p11 : 0 ≤ (2 : Int) := (by omega)
  have q11 : 2 < a0.size := (by have : (2 : Int) < (a0.size : Int) := of_decide_eq_true aM; omega)
  have hx11 : ∀ h : 2 < a0.size, ((a0[2]'h).toNat : Int) = bt a0 2 := bt_at a0 2
  clear p11
  have qi11 : (2 < (a0.size : Int)) = True := eq_true (of_decide_eq_true aM)
  replace q11 := eq_true q11
  have p13 : 0 ≤ (3 : Int) := (by omega)
  have q13 : 3 < a0.size := (by have : (3 : Int) < (a0.size : Int) := of_decide_eq_true aM; omega)
  have hx13 : ∀ h : 3 < a0.size, ((a0[3]'h).toNat : Int) = bt a0 3 := bt_at a0 3
  clear p13
  have qi13 : (3 < (a0.size : Int)) = True := eq_true (of_decide_eq_true aM)
  replace q13 := eq_true q13
  refine start_ (n := 21) (S := fun w' => True) (ds := []) #[ff, ff, ff, ff, ff, ff, ff, ff, ff, ff, ff, ff, ff, ff, ff, ff, ff, ff, ff, ff, ff] (by kernel_rfl) rfl rfl trivial (fun hHeld => ?_); refine with_tabW head_Open.tab5 head_Open.bits5 (fun HT_ HW_ => ?_)
  generalize w53.drew = w54 at BK142 HB hHeld ⊢
  refine pure_ (i := 0) (N := some 27) (v := ?_) (a' := ?_) #[tt, ff, ff, ff, ff, ff, ff, ff, ff, ff, ff, ff, ff, ff, ff, ff, ff, ff, ff, ff, ff] rfl rfl (any_of HT_.out (by kernel_rfl)) (fun _ _ _ h => h) (Or.inl ⟨by rfl, ?_⟩) ?_ ?_
  rotate_left
  ·intro w'
   go_simp
   with_reducible rfl
  rotate_left
  ·exact aP
  refine pure_ (i := 3) (N := some 30) (v := ?_) (a' := ?_) #[tt, ff, ff, tt, ff, ff, ff, ff, ff, ff, ff, ff, ff, ff, ff, ff, ff, ff, ff, ff, ff] rfl rfl (any_of HT_.out (by kernel_rfl)) (fun _ _ _ h => h) (Or.inl ⟨by rfl, ?_⟩) ?_ ?_
  rotate_left
  ·intro w'
   go_simp
   with_reducible rfl
  rotate_left
  ·exact aP
  refine pure_ (i := 6) (N := some 33) (v := ?_) (a' := ?_) #[tt, ff, ff, tt, ff, ff, tt, ff, ff, ff, ff, ff, ff, ff, ff, ff, ff, ff, ff, ff, ff] rfl rfl (any_of HT_.out (by kernel_rfl)) (fun _ _ _ h => h) (Or.inl ⟨by rfl, ?_⟩) ?_ ?_
  rotate_left
  ·intro w'
   go_simp
   with_reducible rfl
  rotate_left
  ·exact aP
  refine pure_ (i := 9) (N := some 36) (v := ?_) (a' := ?_) #[tt, ff, ff, tt, ff, ff, tt, ff, ff, tt, ff, ff, ff, ff, ff, ff, ff, ff, ff, ff, ff] rfl rfl (any_of HT_.out (by kernel_rfl)) (fun _ _ _ h => h) (Or.inl ⟨by rfl, ?_⟩) ?_ ?_
  rotate_left
  ·intro w'
   go_simp
   with_reducible rfl
  rotate_left
  ·exact aP
  refine pure_ (i := 14) (N := some 41) (v := ?_) (a' := ?_) #[tt, ff, ff, tt, ff, ff, tt, ff, ff, tt, ff, ff, ff, ff, tt, ff, ff, ff, ff, ff, ff] rfl rfl (any_of HT_.out (by kernel_rfl)) (fun _ _ _ h => h) (Or.inl ⟨by rfl, ?_⟩) ?_ ?_
  rotate_left
  ·intro w'
   go_simp
   with_reducible rfl
  rotate_left
  ·exact aP
  refine pure_ (i := 15) (N := some 42) (v := ?_) (a' := ?_) #[tt, ff, ff, tt, ff, ff, tt, ff, ff, tt, ff, ff, ff, ff, tt, tt, ff, ff, ff, ff, ff] rfl rfl (any_of HT_.out (by kernel_rfl)) (fun _ _ _ h => h) (Or.inl ⟨by rfl, ?_⟩) ?_ ?_
  rotate_left
  ·intro w'
   go_simp
   with_reducible rfl
  rotate_left
  ·exact aP
  refine pure_ (i := 16) (N := some 43) (v := ?_) (a' := ?_) #[tt, ff, ff, tt, ff, ff, tt, ff, ff, tt, ff, ff, ff, ff, tt, tt, tt, ff, ff, ff, ff] rfl rfl (any_of HT_.out (by kernel_rfl)) (fun _ _ _ h => h) (Or.inl ⟨by rfl, ?_⟩) ?_ ?_
  rotate_left
  ·intro w'
   go_simp
   with_reducible rfl
  rotate_left
  ·exact aP
  refine pure_ (i := 17) (N := some 44) (v := ?_) (a' := ?_) #[tt, ff, ff, tt, ff, ff, tt, ff, ff, tt, ff, ff, ff, ff, tt, tt, tt, tt, ff, ff, ff] rfl rfl (any_of HT_.out (by kernel_rfl)) (fun _ _ _ h => h) (Or.inl ⟨by rfl, ?_⟩) ?_ ?_
  rotate_left
  ·intro w'
   go_simp
   with_reducible rfl
  rotate_left
  ·exact aP
  refine take_ (i := 1) (N := some 28) (v := ?_) (a' := ?_) #[tt, tt, ff, tt, ff, ff, tt, ff, ff, tt, ff, ff, ff, ff, tt, tt, tt, tt, ff, ff, ff] rfl rfl (take_ofW HT_.out HW_.out (by kernel_rfl)) (fun _ _ _ h => h) (Or.inl ⟨by rfl, ?_⟩) hHeld ?_ ?_
  rotate_left
  ·intro w' _
   go_simp
   with_reducible rfl
  rotate_left
  ·exact aP
  refine pure_ (i := 2) (N := some 29) (v := ?_) (a' := ?_) #[tt, tt, tt, tt, ff, ff, tt, ff, ff, tt, ff, ff, ff, ff, tt, tt, tt, tt, ff, ff, ff] rfl rfl (any_of HT_.out (by kernel_rfl)) (fun _ _ _ h => h) (Or.inl ⟨by rfl, ?_⟩) ?_ ?_
  rotate_left
  ·intro w'
   go_simp
   with_reducible rfl
  rotate_left
  ·exact aP
  refine take_ (i := 4) (N := some 31) (v := ?_) (a' := ?_) #[tt, tt, tt, tt, tt, ff, tt, ff, ff, tt, ff, ff, ff, ff, tt, tt, tt, tt, ff, ff, ff] rfl rfl (take_ofW HT_.out HW_.out (by kernel_rfl)) (fun _ _ _ h => h) (Or.inl ⟨by rfl, ?_⟩) hHeld ?_ ?_
  rotate_left
  ·intro w' _
   go_simp
   with_reducible rfl
  rotate_left
  ·exact aP
  refine pure_ (i := 5) (N := some 32) (v := ?_) (a' := ?_) #[tt, tt, tt, tt, tt, tt, tt, ff, ff, tt, ff, ff, ff, ff, tt, tt, tt, tt, ff, ff, ff] rfl rfl (any_of HT_.out (by kernel_rfl)) (fun _ _ _ h => h) (Or.inl ⟨by rfl, ?_⟩) ?_ ?_
  rotate_left
  ·intro w'
   go_simp
   with_reducible rfl
  rotate_left
  ·exact aP
  refine take_ (i := 7) (N := some 34) (v := ?_) (a' := ?_) #[tt, tt, tt, tt, tt, tt, tt, tt, ff, tt, ff, ff, ff, ff, tt, tt, tt, tt, ff, ff, ff] rfl rfl (take_ofW HT_.out HW_.out (by kernel_rfl)) (fun _ _ _ h => h) (Or.inl ⟨by rfl, ?_⟩) hHeld ?_ ?_
  rotate_left
  ·intro w' _
   go_simp
   with_reducible rfl
  rotate_left
  ·exact aP
  refine pure_ (i := 8) (N := some 35) (v := ?_) (a' := ?_) #[tt, tt, tt, tt, tt, tt, tt, tt, tt, tt, ff, ff, ff, ff, tt, tt, tt, tt, ff, ff, ff] rfl rfl (any_of HT_.out (by kernel_rfl)) (fun _ _ _ h => h) (Or.inl ⟨by rfl, ?_⟩) ?_ ?_
  rotate_left
  ·intro w'
   go_simp
   with_reducible rfl
  rotate_left
  ·exact aP
  refine take_ (i := 10) (N := some 37) (v := ?_) (a' := ?_) #[tt, tt, tt, tt, tt, tt, tt, tt, tt, tt, tt, ff, ff, ff, tt, tt, tt, tt, ff, ff, ff] rfl rfl (take_ofW HT_.out HW_.out (by kernel_rfl)) (fun _ _ _ h => h) (Or.inl ⟨by rfl, ?_⟩) hHeld ?_ ?_
  rotate_left
  ·intro w' _
   go_simp
   with_reducible rfl
  rotate_left
  ·exact aP
  refine pure_ (i := 11) (N := some 38) (v := ?_) (a' := ?_) #[tt, tt, tt, tt, tt, tt, tt, tt, tt, tt, tt, tt, ff, ff, tt, tt, tt, tt, ff, ff, ff] rfl rfl (any_of HT_.out (by kernel_rfl)) (fun _ _ _ h => h) (Or.inl ⟨by rfl, ?_⟩) ?_ ?_
  rotate_left
  ·intro w'
   go_simp
   with_reducible rfl
  rotate_left
  ·exact aP
  refine pure_ (i := 12) (N := some 39) (v := ?_) (a' := ?_) #[tt, tt, tt, tt, tt, tt, tt, tt, tt, tt, tt, tt, tt, ff, tt, tt, tt, tt, ff, ff, ff] rfl rfl (any_of HT_.out (by kernel_rfl)) (fun _ _ _ h => h) (Or.inl ⟨by rfl, ?_⟩) ?_ ?_
  rotate_left
  ·intro w'
   go_simp
   with_reducible rfl
  rotate_left
  ·exact aP
  refine pure_ (i := 13) (N := some 40) (v := ?_) (a' := ?_) #[tt, tt, tt, tt, tt, tt, tt, tt, tt, tt, tt, tt, tt, tt, tt, tt, tt, tt, ff, ff, ff] rfl rfl (any_of HT_.out (by kernel_rfl)) (fun _ _ _ h => h) (Or.inl ⟨by rfl, ?_⟩) ?_ ?_
  rotate_left
  ·intro w'
   go_simp
   with_reducible rfl
  rotate_left
  ·exact aP
  refine pure_ (i := 18) (N := some 45) (v := ?_) (a' := ?_) #[tt, tt, tt, tt, tt, tt, tt, tt, tt, tt, tt, tt, tt, tt, tt, tt, tt, tt, tt, ff, ff] rfl rfl (any_of HT_.out (by kernel_rfl)) (fun _ _ _ h => h) (Or.inl ⟨by rfl, ?_⟩) ?_ ?_
  rotate_left
  ·intro w'
   go_simp
   with_reducible rfl
  rotate_left
  ·exact aP
  refine one_ (i := 19) (N := some 9) #[tt, tt, tt, tt, tt, tt, tt, tt, tt, tt, tt, tt, tt, tt, tt, tt, tt, tt, tt, tt, ff] rfl rfl (one_of HT_.out (by kernel_rfl)) (by decide) (fun K hK => ?_)
  refine box_step (by rfl) (N := 9) (by rfl) (cs := #[.int .i64 0, .int .i64 0, .int .i64 0, .int .i64 0, .int .i64 0]) (t := 23) gS ?_
  intro gb148 hg w55 hbox hb
  have BK148 := as_ (hbox)
  have GW148 := gw hg bA
  have GE148 := gw hg bA
  have NB142_148 := nl BK142 hg
  have NB148_142 := ng BK142 hg
  replace BK142 := bb BK142 hb
  replace HB := as_ (below_step bA hb)
  clear hb hbox hg
  refine hK.out _ _ trivial (fun hHeld => ?_)
  clear hK K
  refine norm_ (a' := ?_) ?_ ?_
  rotate_left
  ·show Act.put _ (some 9) _ = _
   simp only [Act.put, List.setIfInBounds_toArray, List.set_cons_zero, List.set_cons_succ, i64_w, i32_w]
   rfl
  refine one_ (i := 20) (N := none) #[tt, tt, tt, tt, tt, tt, tt, tt, tt, tt, tt, tt, tt, tt, tt, tt, tt, tt, tt, tt, tt] rfl rfl (one_of HT_.out (by kernel_rfl)) (by decide) (fun K hK => ?_)
  have hs56 : w55.cell? ⟨gb148, 0, none⟩ = some (.int .i64 0) := (blk_cell BK148.out 0).trans rfl
  have hfs56 := blk_frozen BK148.out 0
  have hns56_0 := NB142_148.out
  have hms56_0 := NB148_142.out
  have hs57 : w55.cell? ⟨gb148, 1, none⟩ = some (.int .i64 0) := (blk_cell BK148.out 1).trans rfl
  have hfs57 := blk_frozen BK148.out 1
  have hns57_0 := NB142_148.out
  have hms57_0 := NB148_142.out
  have hs58 : w55.cell? ⟨gb148, 2, none⟩ = some (.int .i64 0) := (blk_cell BK148.out 2).trans rfl
  have hfs58 := blk_frozen BK148.out 2
  have hns58_0 := NB142_148.out
  have hms58_0 := NB148_142.out
  have hs59 : w55.cell? ⟨gb148, 3, none⟩ = some (.int .i64 0) := (blk_cell BK148.out 3).trans rfl
  have hfs59 := blk_frozen BK148.out 3
  have hns59_0 := NB142_148.out
  have hms59_0 := NB148_142.out
  have hs60 : w55.cell? ⟨gb148, 4, none⟩ = some (.int .i64 0) := (blk_cell BK148.out 4).trans rfl
  have hfs60 := blk_frozen BK148.out 4
  have hns60_0 := NB142_148.out
  have hms60_0 := NB148_142.out
  refine skip_ (w1 := ?_) (by rfl) rfl ?_ ?_
  rotate_left
  ·go_simp
   rfl
  refine hK.out _ _ trivial (fun hHeld => ?_)
  clear hK K
  refine done_ (done_of HT_.out (by kernel_rfl)) ?_
  try go_wp2
  have n0_ : Aside0 ((((((w55.setCell ⟨gb148, 0, none⟩ (.int .i64 (wrap64 (bt a0 0)))).setCell ⟨gb148, 1, none⟩ (.int .i64 (wrap64 (bt a0 1)))).setCell ⟨gb148, 2, none⟩ (.int .i64 (wrap64 ((wrap64 (bt a0 2)) + (wrap64 (256 * (wrap64 (bt a0 3)))))))).setCell ⟨gb148, 3, none⟩ (.int .i64 (wrap64 (t144)))).setCell ⟨gb148, 4, none⟩ (.int .i64 (wrap64 (t146)))).heap[gb142]? = some (.cells #[.int .i64 0, .int .i64 0, .int .i64 0, .int .i64 0, .int .i64 0] 23 (0, 0))) := ⟨by refine bx ?_; refine blk_far ?_ NB142_148.out _; refine bx ?_; refine blk_far ?_ NB142_148.out _; refine bx ?_; refine blk_far ?_ NB142_148.out _; refine bx ?_; refine blk_far ?_ NB142_148.out _; refine bx ?_; refine blk_far ?_ NB142_148.out _; refine bx ?_; exact BK142.out⟩
  have n1_ : Aside0 ((((((w55.setCell ⟨gb148, 0, none⟩ (.int .i64 (wrap64 (bt a0 0)))).setCell ⟨gb148, 1, none⟩ (.int .i64 (wrap64 (bt a0 1)))).setCell ⟨gb148, 2, none⟩ (.int .i64 (wrap64 ((wrap64 (bt a0 2)) + (wrap64 (256 * (wrap64 (bt a0 3)))))))).setCell ⟨gb148, 3, none⟩ (.int .i64 (wrap64 (t144)))).setCell ⟨gb148, 4, none⟩ (.int .i64 (wrap64 (t146)))).heap[gb148]? = some (.cells #[.int .i64 (wrap64 (bt a0 0)), .int .i64 (wrap64 (bt a0 1)), .int .i64 (wrap64 ((wrap64 (bt a0 2)) + (wrap64 (256 * (wrap64 (bt a0 3)))))), .int .i64 (wrap64 (t144)), .int .i64 (wrap64 (t146))] 23 (0, 0))) := ⟨by refine bx ?_; refine blk_put (cs := #[.int .i64 (wrap64 (bt a0 0)), .int .i64 (wrap64 (bt a0 1)), .int .i64 (wrap64 ((wrap64 (bt a0 2)) + (wrap64 (256 * (wrap64 (bt a0 3)))))), .int .i64 (wrap64 (t144)), .int .i64 0]) ?_ 4 _ rfl; refine bx ?_; refine blk_put (cs := #[.int .i64 (wrap64 (bt a0 0)), .int .i64 (wrap64 (bt a0 1)), .int .i64 (wrap64 ((wrap64 (bt a0 2)) + (wrap64 (256 * (wrap64 (bt a0 3)))))), .int .i64 0, .int .i64 0]) ?_ 3 _ rfl; refine bx ?_; refine blk_put (cs := #[.int .i64 (wrap64 (bt a0 0)), .int .i64 (wrap64 (bt a0 1)), .int .i64 0, .int .i64 0, .int .i64 0]) ?_ 2 _ rfl; refine bx ?_; refine blk_put (cs := #[.int .i64 (wrap64 (bt a0 0)), .int .i64 0, .int .i64 0, .int .i64 0, .int .i64 0]) ?_ 1 _ rfl; refine bx ?_; refine blk_put (cs := #[.int .i64 0, .int .i64 0, .int .i64 0, .int .i64 0, .int .i64 0]) ?_ 0 _ rfl; refine bx ?_; exact BK148.out⟩
  have n2_ : Aside0 (Below w.heap.size w (((((w55.setCell ⟨gb148, 0, none⟩ (.int .i64 (wrap64 (bt a0 0)))).setCell ⟨gb148, 1, none⟩ (.int .i64 (wrap64 (bt a0 1)))).setCell ⟨gb148, 2, none⟩ (.int .i64 (wrap64 ((wrap64 (bt a0 2)) + (wrap64 (256 * (wrap64 (bt a0 3)))))))).setCell ⟨gb148, 3, none⟩ (.int .i64 (wrap64 (t144)))).setCell ⟨gb148, 4, none⟩ (.int .i64 (wrap64 (t146))))) := ⟨by repeat (first | (with_reducible first | exact HB.out | apply below_alloc | apply pw_below_drewN | apply below_drew1 | refine below_set ?_ GE142.out | refine below_set ?_ GE148.out) | exact HB.out)⟩
  (try clear BK142)
  (try clear BK148)
  (try clear HB)
  generalize (((((w55.setCell ⟨gb148, 0, none⟩ (.int .i64 (wrap64 (bt a0 0)))).setCell ⟨gb148, 1, none⟩ (.int .i64 (wrap64 (bt a0 1)))).setCell ⟨gb148, 2, none⟩ (.int .i64 (wrap64 ((wrap64 (bt a0 2)) + (wrap64 (256 * (wrap64 (bt a0 3)))))))).setCell ⟨gb148, 3, none⟩ (.int .i64 (wrap64 (t144)))).setCell ⟨gb148, 4, none⟩ (.int .i64 (wrap64 (t146)))) = w61 at n0_ n1_ n2_ ⊢
  have BK142 := n0_
  have BK148 := n1_
  have HB := n2_
  clear n0_ n1_ n2_
  replace BK142 := as_ (blk_drew BK142.out)
  replace BK148 := as_ (blk_drew BK148.out)
  replace HB := as_ (below_drew1 HB.out)
  refine start_ (n := 11) (S := fun w' => w'.cell? ⟨gb148, 0, none⟩ = some (.int .i64 (wrap64 (bt a0 0))) ∧ w'.cell? ⟨gb148, 1, none⟩ = some (.int .i64 (wrap64 (bt a0 1))) ∧ w'.cell? ⟨gb148, 2, none⟩ = some (.int .i64 (wrap64 ((wrap64 (bt a0 2)) + (wrap64 (256 * (wrap64 (bt a0 3))))))) ∧ w'.cell? ⟨gb148, 3, none⟩ = some (.int .i64 (wrap64 (t144))) ∧ w'.cell? ⟨gb148, 4, none⟩ = some (.int .i64 (wrap64 (t146)))) (ds := []) #[ff, ff, ff, ff, ff, ff, ff, ff, ff, ff, ff] (by kernel_rfl) rfl rfl ⟨(blk_cell BK148.out 0).trans rfl, (blk_cell BK148.out 1).trans rfl, (blk_cell BK148.out 2).trans rfl, (blk_cell BK148.out 3).trans rfl, (blk_cell BK148.out 4).trans rfl⟩ (fun hHeld => ?_); refine with_tabW head_Open.tab6 head_Open.bits6 (fun HT_ HW_ => ?_)
  generalize w61.drew = w62 at BK142 BK148 HB hHeld ⊢
  refine pure_ (i := 1) (N := some 48) (v := ?_) (a' := ?_) #[ff, tt, ff, ff, ff, ff, ff, ff, ff, ff, ff] rfl rfl (any_of HT_.out (by kernel_rfl)) (fun _ _ _ h => h) (Or.inl ⟨by rfl, ?_⟩) ?_ ?_
  rotate_left
  ·intro w'
   go_simp
   with_reducible rfl
  rotate_left
  ·exact aP
  refine pure_ (i := 2) (N := some 49) (v := ?_) (a' := ?_) #[ff, tt, tt, ff, ff, ff, ff, ff, ff, ff, ff] rfl rfl (any_of HT_.out (by kernel_rfl)) (fun _ _ _ h => h) (Or.inl ⟨by rfl, ?_⟩) ?_ ?_
  rotate_left
  ·intro w'
   go_simp
   with_reducible rfl
  rotate_left
  ·exact aP
  refine pure_ (i := 3) (N := some 50) (v := ?_) (a' := ?_) #[ff, tt, tt, tt, ff, ff, ff, ff, ff, ff, ff] rfl rfl (any_of HT_.out (by kernel_rfl)) (fun _ _ _ h => h) (Or.inl ⟨by rfl, ?_⟩) ?_ ?_
  rotate_left
  ·intro w'
   go_simp
   with_reducible rfl
  rotate_left
  ·exact aP
  refine pure_ (i := 4) (N := some 51) (v := ?_) (a' := ?_) #[ff, tt, tt, tt, tt, ff, ff, ff, ff, ff, ff] rfl rfl (any_of HT_.out (by kernel_rfl)) (fun _ _ _ h => h) (Or.inl ⟨by rfl, ?_⟩) ?_ ?_
  rotate_left
  ·intro w'
   go_simp
   with_reducible rfl
  rotate_left
  ·exact aP
  refine take_ (i := 0) (N := some 47) (v := ?_) (a' := ?_) #[tt, tt, tt, tt, tt, ff, ff, ff, ff, ff, ff] rfl rfl (take_ofW HT_.out HW_.out (by kernel_rfl)) (fun _ _ _ h => h) (Or.inl ⟨by rfl, ?_⟩) hHeld ?_ ?_
  rotate_left
  ·rintro w' ⟨s0, s1, s2, s3, s4⟩
   go_simp
   with_reducible rfl
  rotate_left
  ·exact aP
  refine one_ (i := 5) (N := some 52) #[tt, tt, tt, tt, tt, tt, ff, ff, ff, ff, ff] rfl rfl (one_of HT_.out (by kernel_rfl)) (by decide) (fun K hK => ?_)
  refine goes_ Try.func9 (by kernel_rfl) rfl #[.agg #[.int .i64 (wrap64 (bt a0 0)), .int .i64 (wrap64 (bt a0 1)), .int .i64 (wrap64 ((wrap64 (bt a0 2)) + (wrap64 (256 * (wrap64 (bt a0 3)))))), .int .i64 (wrap64 (t144)), .int .i64 (wrap64 (t146))], .string js15, .int .i64 (a0.size : Int)] (by rfl) rfl rfl aO ?_
  with_reducible refine (head_Seal.calls k (wrap64 (bt a0 0)) (wrap64 (bt a0 1)) (wrap64 ((wrap64 (bt a0 2)) + (wrap64 (256 * (wrap64 (bt a0 3)))))) (wrap64 (t144)) (wrap64 (t146)) js15 (a0.size : Int) t149 t150 _ A16.out).mono ?_
  rintro e w63 ⟨rfl, hb⟩
  refine ⟨_, rfl, ?_⟩
  replace BK142 := bb BK142 hb
  replace BK148 := bb BK148 hb
  replace HB := as_ (below_step bA hb)
  (try clear hb)
  (try clear hb2)
  (try clear hk)
  (try clear hi)
  refine hK.out _ _ ⟨(blk_cell BK148.out 0).trans rfl, (blk_cell BK148.out 1).trans rfl, (blk_cell BK148.out 2).trans rfl, (blk_cell BK148.out 3).trans rfl, (blk_cell BK148.out 4).trans rfl⟩ (fun hHeld => ?_)
  clear hK K
  refine norm_ (a' := ?_) ?_ ?_
  rotate_left
  ·show Act.put _ (some 52) _ = _
   simp only [Act.put, List.setIfInBounds_toArray, List.set_cons_zero, List.set_cons_succ, i64_w, i32_w]
   rfl
  refine pure_ (i := 6) (N := some 46) (v := ?_) (a' := ?_) #[tt, tt, tt, tt, tt, tt, tt, ff, ff, ff, ff] rfl rfl (any_of HT_.out (by kernel_rfl)) (fun _ _ _ h => h) (Or.inl ⟨by rfl, ?_⟩) ?_ ?_
  rotate_left
  ·intro w'
   go_simp
   with_reducible rfl
  rotate_left
  ·exact aP
  refine pure_ (i := 7) (N := some 53) (v := ?_) (a' := ?_) #[tt, tt, tt, tt, tt, tt, tt, tt, ff, ff, ff] rfl rfl (any_of HT_.out (by kernel_rfl)) (fun _ _ _ h => h) (Or.inl ⟨by rfl, ?_⟩) ?_ ?_
  rotate_left
  ·intro w'
   go_simp
   with_reducible rfl
  rotate_left
  ·exact aP
  refine pure_ (i := 8) (N := some 54) (v := ?_) (a' := ?_) #[tt, tt, tt, tt, tt, tt, tt, tt, tt, ff, ff] rfl rfl (any_of HT_.out (by kernel_rfl)) (fun _ _ _ h => h) (Or.inl ⟨by rfl, ?_⟩) ?_ ?_
  rotate_left
  ·intro w'
   go_simp
   with_reducible rfl
  rotate_left
  ·exact aP
  refine pure_ (i := 9) (N := some 10) (v := ?_) (a' := ?_) #[tt, tt, tt, tt, tt, tt, tt, tt, tt, tt, ff] rfl rfl (any_of HT_.out (by kernel_rfl)) (fun _ _ _ h => h) (Or.inl ⟨by rfl, ?_⟩) ?_ ?_
  rotate_left
  ·intro w'
   go_simp
   with_reducible rfl
  rotate_left
  ·exact aP
  refine pure_ (i := 10) (N := some 11) (v := ?_) (a' := ?_) #[tt, tt, tt, tt, tt, tt, tt, tt, tt, tt, tt] rfl rfl (any_of HT_.out (by kernel_rfl)) (fun _ _ _ h => h) (Or.inl ⟨by rfl, ?_⟩) ?_ ?_
  rotate_left
  ·intro w'
   go_simp
   with_reducible rfl
  rotate_left
  ·exact aP
  refine done_ (done_of HT_.out (by kernel_rfl)) ?_
  have hnb64 := NB142_148.out
  have hnc64 := NB148_142.out
  obtain ⟨hcz65_0, hcz65_1, hcz65_2, hcz65_3, hcz65_4⟩ := zc5 BK142
  obtain ⟨hfz65_0, hfz65_1, hfz65_2, hfz65_3, hfz65_4⟩ := zf5 BK142
  try go_wp2
  refine bodyPost_ret (results_ctt rfl _ _ gb142 23 #[.int .i64 0, .int .i64 0, .int .i64 0, .int .i64 0, .int .i64 0] (0, 0) _ rfl (by refine bx ?_; refine blk_put (cs := #[.int .i64 0, .int .i64 0, .int .i64 0, .int .i64 0, .int .i64 0]) ?_ 4 _ rfl; refine bx ?_; refine blk_put (cs := #[.int .i64 0, .int .i64 0, .int .i64 0, .int .i64 0, .int .i64 0]) ?_ 3 _ rfl; refine bx ?_; refine blk_put (cs := #[.int .i64 0, .int .i64 0, .int .i64 0, .int .i64 0, .int .i64 0]) ?_ 2 _ rfl; refine bx ?_; refine blk_put (cs := #[.int .i64 0, .int .i64 0, .int .i64 0, .int .i64 0, .int .i64 0]) ?_ 1 _ rfl; refine bx ?_; refine blk_put (cs := #[.int .i64 0, .int .i64 0, .int .i64 0, .int .i64 0, .int .i64 0]) ?_ 0 _ rfl; refine bx ?_; exact BK142.out) Try.underlying23 rfl (by kernel_rfl)) rfl ?_
  exact ⟨by first | rfl | (simp [errW_none, errW_some] <;> rfl) | (simp only [← hjs15]; first | rfl | (simp [errW_none, errW_some] <;> rfl)) | (simp [*, errW_none, errW_some] <;> rfl), by repeat (first | (with_reducible first | exact HB.out | apply below_alloc | apply pw_below_drewN | apply below_drew1 | refine below_set ?_ GE142.out | refine below_set ?_ GE148.out) | exact HB.out)⟩
 rw [if_pos c17] at H
 have c17b0 : (t150 == 0) = true := beq_iff_eq.mpr c17
 have c17b1 : (t150 != 0) = false := bne_eq_false_iff_eq.mpr c17
 clear c17
 by_cases c18 : t149.toList = a0.toList
 rotate_left
 ·rw [if_neg c18] at H
  have c18b0 : (t149.toList == a0.toList) = false := beq_eq_false_iff_ne.mpr c18
  have c18b1 : (t149.toList != a0.toList) = true := bne_iff_ne.mpr c18
  simp only [Option.some.injEq, Prod.mk.injEq] at H
  obtain ⟨rfl, rfl, rfl, rfl, rfl, rfl, rfl⟩ := H
  go_enter Try.func12, Try.ntmps12
  try go_wp2_with (first | ((with_reducible refine gate_dst (N := 2) rfl ?_); refine box_event (by rfl) (N := 2) (by rfl) (cs := #[.int .i64 0, .int .i64 0, .int .i64 0, .int .i64 0, .int .i64 0]) (t := 23) gS ?_; intro gb142 hg w38 hbox hb; have BK142 := as_ (hbox); have GW142 := gw hg bA; have GE142 := gw hg bA; replace HB := as_ (below_step bA hb); clear hb hbox hg) | ((with_reducible refine gate_callee (f := 28) rfl ?_); refine goesL_ (some 14) rfl rfl Try.func28 (by kernel_rfl) rfl #[.int .i64 (a0.size : Int)] rfl aO ?_; (with_reducible refine (disk_Size.calls (a0.size : Int) true _ A2.out).mono ?_); rintro e w39 ⟨rfl, hb⟩; refine ⟨_, rfl, ?_⟩; replace BK142 := bb BK142 hb; replace HB := as_ (below_step bA hb); (try clear hb); (try clear hb2); (try clear hk); (try clear hi)) | ((with_reducible refine gate_callee (f := 29) rfl ?_); refine goesL_ (some 19) rfl rfl Try.func29 (by kernel_rfl) rfl #[.string a0, .int .i64 4] rfl aO ?_; (with_reducible refine (word_Read.calls k a0 4 t144 t145 _ A4.out).mono ?_); rintro e w' ⟨rfl, ⟨nd, rfl⟩⟩; refine ⟨_, rfl, ?_⟩; (try (rw [drewN_self w39]; generalize hq_ : World.drewN w39 _ = w39; have n0_ : Aside0 (w39.heap[gb142]? = some (.cells #[.int .i64 0, .int .i64 0, .int .i64 0, .int .i64 0, .int .i64 0] 23 (0, 0))) := ⟨by rw [← hq_]; exact (bk BK142)⟩; have n1_ : Aside0 (Below w.heap.size w w39) := ⟨by rw [← hq_]; exact bA⟩; clear BK142 HB hq_; have BK142 := n0_; have HB := n1_; clear n0_ n1_))) | ((with_reducible refine gate_callee (f := 29) rfl ?_); refine goesL_ (some 24) rfl rfl Try.func29 (by kernel_rfl) rfl #[.string a0, .int .i64 8] rfl aO ?_; (with_reducible refine (word_Read.calls k a0 8 t146 t147 _ A5.out).mono ?_); rintro e w' ⟨rfl, ⟨nd, rfl⟩⟩; refine ⟨_, rfl, ?_⟩; (try (rw [drewN_self w39]; generalize hq_ : World.drewN w39 _ = w39; have n0_ : Aside0 (w39.heap[gb142]? = some (.cells #[.int .i64 0, .int .i64 0, .int .i64 0, .int .i64 0, .int .i64 0] 23 (0, 0))) := ⟨by rw [← hq_]; exact (bk BK142)⟩; have n1_ : Aside0 (Below w.heap.size w w39) := ⟨by rw [← hq_]; exact bA⟩; clear BK142 HB hq_; have BK142 := n0_; have HB := n1_; clear n0_ n1_))))
  replace BK142 := as_ (blk_drew BK142.out)
  replace HB := as_ (below_drew1 HB.out)
  have p7 : 0 ≤ (0 : Int) := (by omega)
  have q7 : 0 < a0.size := (by have : (0 : Int) < (a0.size : Int) := of_decide_eq_true aM; omega)
  have hx7 : ∀ h : 0 < a0.size, ((a0[0]'h).toNat : Int) = bt a0 0 := bt_at a0 0
  clear p7
  have qi7 : (0 < (a0.size : Int)) = True := eq_true (of_decide_eq_true aM)
  replace q7 := eq_true q7
  have p9 : 0 ≤ (1 : Int) := (by omega)
  have q9 : 1 < a0.size := (by have : (1 : Int) < (a0.size : Int) := of_decide_eq_true aM; omega)
  have hx9 : ∀ h : 1 < a0.size, ((a0[1]'h).toNat : Int) = bt a0 1 := bt_at a0 1
  clear p9
  have qi9 : (1 < (a0.size : Int)) = True := eq_true (of_decide_eq_true aM)
  replace q9 := eq_true q9
  have p11 : 0 ≤ (2 : Int) := (by omega)
  have q11 : 2 < a0.size := (by have : (2 : Int) < (a0.size : Int) := of_decide_eq_true aM; omega)
  have hx11 : ∀ h : 2 < a0.size, ((a0[2]'h).toNat : Int) = bt a0 2 := bt_at a0 2
  clear p11
  have qi11 : (2 < (a0.size : Int)) = True := eq_true (of_decide_eq_true aM)
  replace q11 := eq_true q11
  have p13 : 0 ≤ (3 : Int) := (by omega)
  have q13 : 3 < a0.size := (by have : (3 : Int) < (a0.size : Int) := of_decide_eq_true aM; omega)
  have hx13 : ∀ h : 3 < a0.size, ((a0[3]'h).toNat : Int) = bt a0 3 := bt_at a0 3
  clear p13
  have qi13 : (3 < (a0.size : Int)) = True := eq_true (of_decide_eq_true aM)
  replace q13 := eq_true q13
  refine start_ (n := 21) (S := fun w' => True) (ds := []) #[ff, ff, ff, ff, ff, ff, ff, ff, ff, ff, ff, ff, ff, ff, ff, ff, ff, ff, ff, ff, ff] (by kernel_rfl) rfl rfl trivial (fun hHeld => ?_); refine with_tabW head_Open.tab5 head_Open.bits5 (fun HT_ HW_ => ?_)
  generalize w39.drew = w40 at BK142 HB hHeld ⊢
  refine pure_ (i := 0) (N := some 27) (v := ?_) (a' := ?_) #[tt, ff, ff, ff, ff, ff, ff, ff, ff, ff, ff, ff, ff, ff, ff, ff, ff, ff, ff, ff, ff] rfl rfl (any_of HT_.out (by kernel_rfl)) (fun _ _ _ h => h) (Or.inl ⟨by rfl, ?_⟩) ?_ ?_
  rotate_left
  ·intro w'
   go_simp
   with_reducible rfl
  rotate_left
  ·exact aP
  refine pure_ (i := 3) (N := some 30) (v := ?_) (a' := ?_) #[tt, ff, ff, tt, ff, ff, ff, ff, ff, ff, ff, ff, ff, ff, ff, ff, ff, ff, ff, ff, ff] rfl rfl (any_of HT_.out (by kernel_rfl)) (fun _ _ _ h => h) (Or.inl ⟨by rfl, ?_⟩) ?_ ?_
  rotate_left
  ·intro w'
   go_simp
   with_reducible rfl
  rotate_left
  ·exact aP
  refine pure_ (i := 6) (N := some 33) (v := ?_) (a' := ?_) #[tt, ff, ff, tt, ff, ff, tt, ff, ff, ff, ff, ff, ff, ff, ff, ff, ff, ff, ff, ff, ff] rfl rfl (any_of HT_.out (by kernel_rfl)) (fun _ _ _ h => h) (Or.inl ⟨by rfl, ?_⟩) ?_ ?_
  rotate_left
  ·intro w'
   go_simp
   with_reducible rfl
  rotate_left
  ·exact aP
  refine pure_ (i := 9) (N := some 36) (v := ?_) (a' := ?_) #[tt, ff, ff, tt, ff, ff, tt, ff, ff, tt, ff, ff, ff, ff, ff, ff, ff, ff, ff, ff, ff] rfl rfl (any_of HT_.out (by kernel_rfl)) (fun _ _ _ h => h) (Or.inl ⟨by rfl, ?_⟩) ?_ ?_
  rotate_left
  ·intro w'
   go_simp
   with_reducible rfl
  rotate_left
  ·exact aP
  refine pure_ (i := 14) (N := some 41) (v := ?_) (a' := ?_) #[tt, ff, ff, tt, ff, ff, tt, ff, ff, tt, ff, ff, ff, ff, tt, ff, ff, ff, ff, ff, ff] rfl rfl (any_of HT_.out (by kernel_rfl)) (fun _ _ _ h => h) (Or.inl ⟨by rfl, ?_⟩) ?_ ?_
  rotate_left
  ·intro w'
   go_simp
   with_reducible rfl
  rotate_left
  ·exact aP
  refine pure_ (i := 15) (N := some 42) (v := ?_) (a' := ?_) #[tt, ff, ff, tt, ff, ff, tt, ff, ff, tt, ff, ff, ff, ff, tt, tt, ff, ff, ff, ff, ff] rfl rfl (any_of HT_.out (by kernel_rfl)) (fun _ _ _ h => h) (Or.inl ⟨by rfl, ?_⟩) ?_ ?_
  rotate_left
  ·intro w'
   go_simp
   with_reducible rfl
  rotate_left
  ·exact aP
  refine pure_ (i := 16) (N := some 43) (v := ?_) (a' := ?_) #[tt, ff, ff, tt, ff, ff, tt, ff, ff, tt, ff, ff, ff, ff, tt, tt, tt, ff, ff, ff, ff] rfl rfl (any_of HT_.out (by kernel_rfl)) (fun _ _ _ h => h) (Or.inl ⟨by rfl, ?_⟩) ?_ ?_
  rotate_left
  ·intro w'
   go_simp
   with_reducible rfl
  rotate_left
  ·exact aP
  refine pure_ (i := 17) (N := some 44) (v := ?_) (a' := ?_) #[tt, ff, ff, tt, ff, ff, tt, ff, ff, tt, ff, ff, ff, ff, tt, tt, tt, tt, ff, ff, ff] rfl rfl (any_of HT_.out (by kernel_rfl)) (fun _ _ _ h => h) (Or.inl ⟨by rfl, ?_⟩) ?_ ?_
  rotate_left
  ·intro w'
   go_simp
   with_reducible rfl
  rotate_left
  ·exact aP
  refine take_ (i := 1) (N := some 28) (v := ?_) (a' := ?_) #[tt, tt, ff, tt, ff, ff, tt, ff, ff, tt, ff, ff, ff, ff, tt, tt, tt, tt, ff, ff, ff] rfl rfl (take_ofW HT_.out HW_.out (by kernel_rfl)) (fun _ _ _ h => h) (Or.inl ⟨by rfl, ?_⟩) hHeld ?_ ?_
  rotate_left
  ·intro w' _
   go_simp
   with_reducible rfl
  rotate_left
  ·exact aP
  refine pure_ (i := 2) (N := some 29) (v := ?_) (a' := ?_) #[tt, tt, tt, tt, ff, ff, tt, ff, ff, tt, ff, ff, ff, ff, tt, tt, tt, tt, ff, ff, ff] rfl rfl (any_of HT_.out (by kernel_rfl)) (fun _ _ _ h => h) (Or.inl ⟨by rfl, ?_⟩) ?_ ?_
  rotate_left
  ·intro w'
   go_simp
   with_reducible rfl
  rotate_left
  ·exact aP
  refine take_ (i := 4) (N := some 31) (v := ?_) (a' := ?_) #[tt, tt, tt, tt, tt, ff, tt, ff, ff, tt, ff, ff, ff, ff, tt, tt, tt, tt, ff, ff, ff] rfl rfl (take_ofW HT_.out HW_.out (by kernel_rfl)) (fun _ _ _ h => h) (Or.inl ⟨by rfl, ?_⟩) hHeld ?_ ?_
  rotate_left
  ·intro w' _
   go_simp
   with_reducible rfl
  rotate_left
  ·exact aP
  refine pure_ (i := 5) (N := some 32) (v := ?_) (a' := ?_) #[tt, tt, tt, tt, tt, tt, tt, ff, ff, tt, ff, ff, ff, ff, tt, tt, tt, tt, ff, ff, ff] rfl rfl (any_of HT_.out (by kernel_rfl)) (fun _ _ _ h => h) (Or.inl ⟨by rfl, ?_⟩) ?_ ?_
  rotate_left
  ·intro w'
   go_simp
   with_reducible rfl
  rotate_left
  ·exact aP
  refine take_ (i := 7) (N := some 34) (v := ?_) (a' := ?_) #[tt, tt, tt, tt, tt, tt, tt, tt, ff, tt, ff, ff, ff, ff, tt, tt, tt, tt, ff, ff, ff] rfl rfl (take_ofW HT_.out HW_.out (by kernel_rfl)) (fun _ _ _ h => h) (Or.inl ⟨by rfl, ?_⟩) hHeld ?_ ?_
  rotate_left
  ·intro w' _
   go_simp
   with_reducible rfl
  rotate_left
  ·exact aP
  refine pure_ (i := 8) (N := some 35) (v := ?_) (a' := ?_) #[tt, tt, tt, tt, tt, tt, tt, tt, tt, tt, ff, ff, ff, ff, tt, tt, tt, tt, ff, ff, ff] rfl rfl (any_of HT_.out (by kernel_rfl)) (fun _ _ _ h => h) (Or.inl ⟨by rfl, ?_⟩) ?_ ?_
  rotate_left
  ·intro w'
   go_simp
   with_reducible rfl
  rotate_left
  ·exact aP
  refine take_ (i := 10) (N := some 37) (v := ?_) (a' := ?_) #[tt, tt, tt, tt, tt, tt, tt, tt, tt, tt, tt, ff, ff, ff, tt, tt, tt, tt, ff, ff, ff] rfl rfl (take_ofW HT_.out HW_.out (by kernel_rfl)) (fun _ _ _ h => h) (Or.inl ⟨by rfl, ?_⟩) hHeld ?_ ?_
  rotate_left
  ·intro w' _
   go_simp
   with_reducible rfl
  rotate_left
  ·exact aP
  refine pure_ (i := 11) (N := some 38) (v := ?_) (a' := ?_) #[tt, tt, tt, tt, tt, tt, tt, tt, tt, tt, tt, tt, ff, ff, tt, tt, tt, tt, ff, ff, ff] rfl rfl (any_of HT_.out (by kernel_rfl)) (fun _ _ _ h => h) (Or.inl ⟨by rfl, ?_⟩) ?_ ?_
  rotate_left
  ·intro w'
   go_simp
   with_reducible rfl
  rotate_left
  ·exact aP
  refine pure_ (i := 12) (N := some 39) (v := ?_) (a' := ?_) #[tt, tt, tt, tt, tt, tt, tt, tt, tt, tt, tt, tt, tt, ff, tt, tt, tt, tt, ff, ff, ff] rfl rfl (any_of HT_.out (by kernel_rfl)) (fun _ _ _ h => h) (Or.inl ⟨by rfl, ?_⟩) ?_ ?_
  rotate_left
  ·intro w'
   go_simp
   with_reducible rfl
  rotate_left
  ·exact aP
  refine pure_ (i := 13) (N := some 40) (v := ?_) (a' := ?_) #[tt, tt, tt, tt, tt, tt, tt, tt, tt, tt, tt, tt, tt, tt, tt, tt, tt, tt, ff, ff, ff] rfl rfl (any_of HT_.out (by kernel_rfl)) (fun _ _ _ h => h) (Or.inl ⟨by rfl, ?_⟩) ?_ ?_
  rotate_left
  ·intro w'
   go_simp
   with_reducible rfl
  rotate_left
  ·exact aP
  refine pure_ (i := 18) (N := some 45) (v := ?_) (a' := ?_) #[tt, tt, tt, tt, tt, tt, tt, tt, tt, tt, tt, tt, tt, tt, tt, tt, tt, tt, tt, ff, ff] rfl rfl (any_of HT_.out (by kernel_rfl)) (fun _ _ _ h => h) (Or.inl ⟨by rfl, ?_⟩) ?_ ?_
  rotate_left
  ·intro w'
   go_simp
   with_reducible rfl
  rotate_left
  ·exact aP
  refine one_ (i := 19) (N := some 9) #[tt, tt, tt, tt, tt, tt, tt, tt, tt, tt, tt, tt, tt, tt, tt, tt, tt, tt, tt, tt, ff] rfl rfl (one_of HT_.out (by kernel_rfl)) (by decide) (fun K hK => ?_)
  refine box_step (by rfl) (N := 9) (by rfl) (cs := #[.int .i64 0, .int .i64 0, .int .i64 0, .int .i64 0, .int .i64 0]) (t := 23) gS ?_
  intro gb148 hg w41 hbox hb
  have BK148 := as_ (hbox)
  have GW148 := gw hg bA
  have GE148 := gw hg bA
  have NB142_148 := nl BK142 hg
  have NB148_142 := ng BK142 hg
  replace BK142 := bb BK142 hb
  replace HB := as_ (below_step bA hb)
  clear hb hbox hg
  refine hK.out _ _ trivial (fun hHeld => ?_)
  clear hK K
  refine norm_ (a' := ?_) ?_ ?_
  rotate_left
  ·show Act.put _ (some 9) _ = _
   simp only [Act.put, List.setIfInBounds_toArray, List.set_cons_zero, List.set_cons_succ, i64_w, i32_w]
   rfl
  refine one_ (i := 20) (N := none) #[tt, tt, tt, tt, tt, tt, tt, tt, tt, tt, tt, tt, tt, tt, tt, tt, tt, tt, tt, tt, tt] rfl rfl (one_of HT_.out (by kernel_rfl)) (by decide) (fun K hK => ?_)
  have hs42 : w41.cell? ⟨gb148, 0, none⟩ = some (.int .i64 0) := (blk_cell BK148.out 0).trans rfl
  have hfs42 := blk_frozen BK148.out 0
  have hns42_0 := NB142_148.out
  have hms42_0 := NB148_142.out
  have hs43 : w41.cell? ⟨gb148, 1, none⟩ = some (.int .i64 0) := (blk_cell BK148.out 1).trans rfl
  have hfs43 := blk_frozen BK148.out 1
  have hns43_0 := NB142_148.out
  have hms43_0 := NB148_142.out
  have hs44 : w41.cell? ⟨gb148, 2, none⟩ = some (.int .i64 0) := (blk_cell BK148.out 2).trans rfl
  have hfs44 := blk_frozen BK148.out 2
  have hns44_0 := NB142_148.out
  have hms44_0 := NB148_142.out
  have hs45 : w41.cell? ⟨gb148, 3, none⟩ = some (.int .i64 0) := (blk_cell BK148.out 3).trans rfl
  have hfs45 := blk_frozen BK148.out 3
  have hns45_0 := NB142_148.out
  have hms45_0 := NB148_142.out
  have hs46 : w41.cell? ⟨gb148, 4, none⟩ = some (.int .i64 0) := (blk_cell BK148.out 4).trans rfl
  have hfs46 := blk_frozen BK148.out 4
  have hns46_0 := NB142_148.out
  have hms46_0 := NB148_142.out
  refine skip_ (w1 := ?_) (by rfl) rfl ?_ ?_
  rotate_left
  ·go_simp
   rfl
  refine hK.out _ _ trivial (fun hHeld => ?_)
  clear hK K
  refine done_ (done_of HT_.out (by kernel_rfl)) ?_
  try go_wp2
  have n0_ : Aside0 ((((((w41.setCell ⟨gb148, 0, none⟩ (.int .i64 (wrap64 (bt a0 0)))).setCell ⟨gb148, 1, none⟩ (.int .i64 (wrap64 (bt a0 1)))).setCell ⟨gb148, 2, none⟩ (.int .i64 (wrap64 ((wrap64 (bt a0 2)) + (wrap64 (256 * (wrap64 (bt a0 3)))))))).setCell ⟨gb148, 3, none⟩ (.int .i64 (wrap64 (t144)))).setCell ⟨gb148, 4, none⟩ (.int .i64 (wrap64 (t146)))).heap[gb142]? = some (.cells #[.int .i64 0, .int .i64 0, .int .i64 0, .int .i64 0, .int .i64 0] 23 (0, 0))) := ⟨by refine bx ?_; refine blk_far ?_ NB142_148.out _; refine bx ?_; refine blk_far ?_ NB142_148.out _; refine bx ?_; refine blk_far ?_ NB142_148.out _; refine bx ?_; refine blk_far ?_ NB142_148.out _; refine bx ?_; refine blk_far ?_ NB142_148.out _; refine bx ?_; exact BK142.out⟩
  have n1_ : Aside0 ((((((w41.setCell ⟨gb148, 0, none⟩ (.int .i64 (wrap64 (bt a0 0)))).setCell ⟨gb148, 1, none⟩ (.int .i64 (wrap64 (bt a0 1)))).setCell ⟨gb148, 2, none⟩ (.int .i64 (wrap64 ((wrap64 (bt a0 2)) + (wrap64 (256 * (wrap64 (bt a0 3)))))))).setCell ⟨gb148, 3, none⟩ (.int .i64 (wrap64 (t144)))).setCell ⟨gb148, 4, none⟩ (.int .i64 (wrap64 (t146)))).heap[gb148]? = some (.cells #[.int .i64 (wrap64 (bt a0 0)), .int .i64 (wrap64 (bt a0 1)), .int .i64 (wrap64 ((wrap64 (bt a0 2)) + (wrap64 (256 * (wrap64 (bt a0 3)))))), .int .i64 (wrap64 (t144)), .int .i64 (wrap64 (t146))] 23 (0, 0))) := ⟨by refine bx ?_; refine blk_put (cs := #[.int .i64 (wrap64 (bt a0 0)), .int .i64 (wrap64 (bt a0 1)), .int .i64 (wrap64 ((wrap64 (bt a0 2)) + (wrap64 (256 * (wrap64 (bt a0 3)))))), .int .i64 (wrap64 (t144)), .int .i64 0]) ?_ 4 _ rfl; refine bx ?_; refine blk_put (cs := #[.int .i64 (wrap64 (bt a0 0)), .int .i64 (wrap64 (bt a0 1)), .int .i64 (wrap64 ((wrap64 (bt a0 2)) + (wrap64 (256 * (wrap64 (bt a0 3)))))), .int .i64 0, .int .i64 0]) ?_ 3 _ rfl; refine bx ?_; refine blk_put (cs := #[.int .i64 (wrap64 (bt a0 0)), .int .i64 (wrap64 (bt a0 1)), .int .i64 0, .int .i64 0, .int .i64 0]) ?_ 2 _ rfl; refine bx ?_; refine blk_put (cs := #[.int .i64 (wrap64 (bt a0 0)), .int .i64 0, .int .i64 0, .int .i64 0, .int .i64 0]) ?_ 1 _ rfl; refine bx ?_; refine blk_put (cs := #[.int .i64 0, .int .i64 0, .int .i64 0, .int .i64 0, .int .i64 0]) ?_ 0 _ rfl; refine bx ?_; exact BK148.out⟩
  have n2_ : Aside0 (Below w.heap.size w (((((w41.setCell ⟨gb148, 0, none⟩ (.int .i64 (wrap64 (bt a0 0)))).setCell ⟨gb148, 1, none⟩ (.int .i64 (wrap64 (bt a0 1)))).setCell ⟨gb148, 2, none⟩ (.int .i64 (wrap64 ((wrap64 (bt a0 2)) + (wrap64 (256 * (wrap64 (bt a0 3)))))))).setCell ⟨gb148, 3, none⟩ (.int .i64 (wrap64 (t144)))).setCell ⟨gb148, 4, none⟩ (.int .i64 (wrap64 (t146))))) := ⟨by repeat (first | (with_reducible first | exact HB.out | apply below_alloc | apply pw_below_drewN | apply below_drew1 | refine below_set ?_ GE142.out | refine below_set ?_ GE148.out) | exact HB.out)⟩
  (try clear BK142)
  (try clear BK148)
  (try clear HB)
  generalize (((((w41.setCell ⟨gb148, 0, none⟩ (.int .i64 (wrap64 (bt a0 0)))).setCell ⟨gb148, 1, none⟩ (.int .i64 (wrap64 (bt a0 1)))).setCell ⟨gb148, 2, none⟩ (.int .i64 (wrap64 ((wrap64 (bt a0 2)) + (wrap64 (256 * (wrap64 (bt a0 3)))))))).setCell ⟨gb148, 3, none⟩ (.int .i64 (wrap64 (t144)))).setCell ⟨gb148, 4, none⟩ (.int .i64 (wrap64 (t146)))) = w47 at n0_ n1_ n2_ ⊢
  have BK142 := n0_
  have BK148 := n1_
  have HB := n2_
  clear n0_ n1_ n2_
  replace BK142 := as_ (blk_drew BK142.out)
  replace BK148 := as_ (blk_drew BK148.out)
  replace HB := as_ (below_drew1 HB.out)
  refine start_ (n := 11) (S := fun w' => w'.cell? ⟨gb148, 0, none⟩ = some (.int .i64 (wrap64 (bt a0 0))) ∧ w'.cell? ⟨gb148, 1, none⟩ = some (.int .i64 (wrap64 (bt a0 1))) ∧ w'.cell? ⟨gb148, 2, none⟩ = some (.int .i64 (wrap64 ((wrap64 (bt a0 2)) + (wrap64 (256 * (wrap64 (bt a0 3))))))) ∧ w'.cell? ⟨gb148, 3, none⟩ = some (.int .i64 (wrap64 (t144))) ∧ w'.cell? ⟨gb148, 4, none⟩ = some (.int .i64 (wrap64 (t146)))) (ds := []) #[ff, ff, ff, ff, ff, ff, ff, ff, ff, ff, ff] (by kernel_rfl) rfl rfl ⟨(blk_cell BK148.out 0).trans rfl, (blk_cell BK148.out 1).trans rfl, (blk_cell BK148.out 2).trans rfl, (blk_cell BK148.out 3).trans rfl, (blk_cell BK148.out 4).trans rfl⟩ (fun hHeld => ?_); refine with_tabW head_Open.tab6 head_Open.bits6 (fun HT_ HW_ => ?_)
  generalize w47.drew = w48 at BK142 BK148 HB hHeld ⊢
  refine pure_ (i := 1) (N := some 48) (v := ?_) (a' := ?_) #[ff, tt, ff, ff, ff, ff, ff, ff, ff, ff, ff] rfl rfl (any_of HT_.out (by kernel_rfl)) (fun _ _ _ h => h) (Or.inl ⟨by rfl, ?_⟩) ?_ ?_
  rotate_left
  ·intro w'
   go_simp
   with_reducible rfl
  rotate_left
  ·exact aP
  refine pure_ (i := 2) (N := some 49) (v := ?_) (a' := ?_) #[ff, tt, tt, ff, ff, ff, ff, ff, ff, ff, ff] rfl rfl (any_of HT_.out (by kernel_rfl)) (fun _ _ _ h => h) (Or.inl ⟨by rfl, ?_⟩) ?_ ?_
  rotate_left
  ·intro w'
   go_simp
   with_reducible rfl
  rotate_left
  ·exact aP
  refine pure_ (i := 3) (N := some 50) (v := ?_) (a' := ?_) #[ff, tt, tt, tt, ff, ff, ff, ff, ff, ff, ff] rfl rfl (any_of HT_.out (by kernel_rfl)) (fun _ _ _ h => h) (Or.inl ⟨by rfl, ?_⟩) ?_ ?_
  rotate_left
  ·intro w'
   go_simp
   with_reducible rfl
  rotate_left
  ·exact aP
  refine pure_ (i := 4) (N := some 51) (v := ?_) (a' := ?_) #[ff, tt, tt, tt, tt, ff, ff, ff, ff, ff, ff] rfl rfl (any_of HT_.out (by kernel_rfl)) (fun _ _ _ h => h) (Or.inl ⟨by rfl, ?_⟩) ?_ ?_
  rotate_left
  ·intro w'
   go_simp
   with_reducible rfl
  rotate_left
  ·exact aP
  refine take_ (i := 0) (N := some 47) (v := ?_) (a' := ?_) #[tt, tt, tt, tt, tt, ff, ff, ff, ff, ff, ff] rfl rfl (take_ofW HT_.out HW_.out (by kernel_rfl)) (fun _ _ _ h => h) (Or.inl ⟨by rfl, ?_⟩) hHeld ?_ ?_
  rotate_left
  ·rintro w' ⟨s0, s1, s2, s3, s4⟩
   go_simp
   with_reducible rfl
  rotate_left
  ·exact aP
  refine one_ (i := 5) (N := some 52) #[tt, tt, tt, tt, tt, tt, ff, ff, ff, ff, ff] rfl rfl (one_of HT_.out (by kernel_rfl)) (by decide) (fun K hK => ?_)
  refine goes_ Try.func9 (by kernel_rfl) rfl #[.agg #[.int .i64 (wrap64 (bt a0 0)), .int .i64 (wrap64 (bt a0 1)), .int .i64 (wrap64 ((wrap64 (bt a0 2)) + (wrap64 (256 * (wrap64 (bt a0 3)))))), .int .i64 (wrap64 (t144)), .int .i64 (wrap64 (t146))], .string js15, .int .i64 (a0.size : Int)] (by rfl) rfl rfl aO ?_
  with_reducible refine (head_Seal.calls k (wrap64 (bt a0 0)) (wrap64 (bt a0 1)) (wrap64 ((wrap64 (bt a0 2)) + (wrap64 (256 * (wrap64 (bt a0 3)))))) (wrap64 (t144)) (wrap64 (t146)) js15 (a0.size : Int) t149 t150 _ A16.out).mono ?_
  rintro e w49 ⟨rfl, hb⟩
  refine ⟨_, rfl, ?_⟩
  replace BK142 := bb BK142 hb
  replace BK148 := bb BK148 hb
  replace HB := as_ (below_step bA hb)
  (try clear hb)
  (try clear hb2)
  (try clear hk)
  (try clear hi)
  refine hK.out _ _ ⟨(blk_cell BK148.out 0).trans rfl, (blk_cell BK148.out 1).trans rfl, (blk_cell BK148.out 2).trans rfl, (blk_cell BK148.out 3).trans rfl, (blk_cell BK148.out 4).trans rfl⟩ (fun hHeld => ?_)
  clear hK K
  refine norm_ (a' := ?_) ?_ ?_
  rotate_left
  ·show Act.put _ (some 52) _ = _
   simp only [Act.put, List.setIfInBounds_toArray, List.set_cons_zero, List.set_cons_succ, i64_w, i32_w]
   rfl
  refine pure_ (i := 6) (N := some 46) (v := ?_) (a' := ?_) #[tt, tt, tt, tt, tt, tt, tt, ff, ff, ff, ff] rfl rfl (any_of HT_.out (by kernel_rfl)) (fun _ _ _ h => h) (Or.inl ⟨by rfl, ?_⟩) ?_ ?_
  rotate_left
  ·intro w'
   go_simp
   with_reducible rfl
  rotate_left
  ·exact aP
  refine pure_ (i := 7) (N := some 53) (v := ?_) (a' := ?_) #[tt, tt, tt, tt, tt, tt, tt, tt, ff, ff, ff] rfl rfl (any_of HT_.out (by kernel_rfl)) (fun _ _ _ h => h) (Or.inl ⟨by rfl, ?_⟩) ?_ ?_
  rotate_left
  ·intro w'
   go_simp
   with_reducible rfl
  rotate_left
  ·exact aP
  refine pure_ (i := 8) (N := some 54) (v := ?_) (a' := ?_) #[tt, tt, tt, tt, tt, tt, tt, tt, tt, ff, ff] rfl rfl (any_of HT_.out (by kernel_rfl)) (fun _ _ _ h => h) (Or.inl ⟨by rfl, ?_⟩) ?_ ?_
  rotate_left
  ·intro w'
   go_simp
   with_reducible rfl
  rotate_left
  ·exact aP
  refine pure_ (i := 9) (N := some 10) (v := ?_) (a' := ?_) #[tt, tt, tt, tt, tt, tt, tt, tt, tt, tt, ff] rfl rfl (any_of HT_.out (by kernel_rfl)) (fun _ _ _ h => h) (Or.inl ⟨by rfl, ?_⟩) ?_ ?_
  rotate_left
  ·intro w'
   go_simp
   with_reducible rfl
  rotate_left
  ·exact aP
  refine pure_ (i := 10) (N := some 11) (v := ?_) (a' := ?_) #[tt, tt, tt, tt, tt, tt, tt, tt, tt, tt, tt] rfl rfl (any_of HT_.out (by kernel_rfl)) (fun _ _ _ h => h) (Or.inl ⟨by rfl, ?_⟩) ?_ ?_
  rotate_left
  ·intro w'
   go_simp
   with_reducible rfl
  rotate_left
  ·exact aP
  refine done_ (done_of HT_.out (by kernel_rfl)) ?_
  have hnb50 := NB142_148.out
  have hnc50 := NB148_142.out
  obtain ⟨hcz51_0, hcz51_1, hcz51_2, hcz51_3, hcz51_4⟩ := zc5 BK142
  obtain ⟨hfz51_0, hfz51_1, hfz51_2, hfz51_3, hfz51_4⟩ := zf5 BK142
  try go_wp2
  refine bodyPost_ret (results_ctt rfl _ _ gb142 23 #[.int .i64 0, .int .i64 0, .int .i64 0, .int .i64 0, .int .i64 0] (0, 0) _ rfl (by refine bx ?_; refine blk_put (cs := #[.int .i64 0, .int .i64 0, .int .i64 0, .int .i64 0, .int .i64 0]) ?_ 4 _ rfl; refine bx ?_; refine blk_put (cs := #[.int .i64 0, .int .i64 0, .int .i64 0, .int .i64 0, .int .i64 0]) ?_ 3 _ rfl; refine bx ?_; refine blk_put (cs := #[.int .i64 0, .int .i64 0, .int .i64 0, .int .i64 0, .int .i64 0]) ?_ 2 _ rfl; refine bx ?_; refine blk_put (cs := #[.int .i64 0, .int .i64 0, .int .i64 0, .int .i64 0, .int .i64 0]) ?_ 1 _ rfl; refine bx ?_; refine blk_put (cs := #[.int .i64 0, .int .i64 0, .int .i64 0, .int .i64 0, .int .i64 0]) ?_ 0 _ rfl; refine bx ?_; exact BK142.out) Try.underlying23 rfl (by kernel_rfl)) rfl ?_
  exact ⟨by first | rfl | (simp [errW_none, errW_some] <;> rfl) | (simp only [← hjs15]; first | rfl | (simp [errW_none, errW_some] <;> rfl)) | (simp [*, errW_none, errW_some] <;> rfl), by repeat (first | (with_reducible first | exact HB.out | apply below_alloc | apply pw_below_drewN | apply below_drew1 | refine below_set ?_ GE142.out | refine below_set ?_ GE148.out) | exact HB.out)⟩
 rw [if_pos c18] at H
 have c18b0 : (t149.toList == a0.toList) = true := beq_iff_eq.mpr c18
 have c18b1 : (t149.toList != a0.toList) = false := bne_eq_false_iff_eq.mpr c18
 clear c18
 have c19b0 := eq_true (of_decide_eq_true aM : 16 ≤ (a0.size : Int))
 simp only [Option.some.injEq, Prod.mk.injEq] at H
 obtain ⟨rfl, rfl, rfl, rfl, rfl, rfl, rfl⟩ := H
 go_enter Try.func12, Try.ntmps12
 try go_wp2_with (first | ((with_reducible refine gate_dst (N := 2) rfl ?_); refine box_event (by rfl) (N := 2) (by rfl) (cs := #[.int .i64 0, .int .i64 0, .int .i64 0, .int .i64 0, .int .i64 0]) (t := 23) gS ?_; intro gb142 hg w20 hbox hb; have BK142 := as_ (hbox); have GW142 := gw hg bA; have GE142 := gw hg bA; replace HB := as_ (below_step bA hb); clear hb hbox hg) | ((with_reducible refine gate_callee (f := 28) rfl ?_); refine goesL_ (some 14) rfl rfl Try.func28 (by kernel_rfl) rfl #[.int .i64 (a0.size : Int)] rfl aO ?_; (with_reducible refine (disk_Size.calls (a0.size : Int) true _ A2.out).mono ?_); rintro e w21 ⟨rfl, hb⟩; refine ⟨_, rfl, ?_⟩; replace BK142 := bb BK142 hb; replace HB := as_ (below_step bA hb); (try clear hb); (try clear hb2); (try clear hk); (try clear hi)) | ((with_reducible refine gate_callee (f := 29) rfl ?_); refine goesL_ (some 19) rfl rfl Try.func29 (by kernel_rfl) rfl #[.string a0, .int .i64 4] rfl aO ?_; (with_reducible refine (word_Read.calls k a0 4 t144 t145 _ A4.out).mono ?_); rintro e w' ⟨rfl, ⟨nd, rfl⟩⟩; refine ⟨_, rfl, ?_⟩; (try (rw [drewN_self w21]; generalize hq_ : World.drewN w21 _ = w21; have n0_ : Aside0 (w21.heap[gb142]? = some (.cells #[.int .i64 0, .int .i64 0, .int .i64 0, .int .i64 0, .int .i64 0] 23 (0, 0))) := ⟨by rw [← hq_]; exact (bk BK142)⟩; have n1_ : Aside0 (Below w.heap.size w w21) := ⟨by rw [← hq_]; exact bA⟩; clear BK142 HB hq_; have BK142 := n0_; have HB := n1_; clear n0_ n1_))) | ((with_reducible refine gate_callee (f := 29) rfl ?_); refine goesL_ (some 24) rfl rfl Try.func29 (by kernel_rfl) rfl #[.string a0, .int .i64 8] rfl aO ?_; (with_reducible refine (word_Read.calls k a0 8 t146 t147 _ A5.out).mono ?_); rintro e w' ⟨rfl, ⟨nd, rfl⟩⟩; refine ⟨_, rfl, ?_⟩; (try (rw [drewN_self w21]; generalize hq_ : World.drewN w21 _ = w21; have n0_ : Aside0 (w21.heap[gb142]? = some (.cells #[.int .i64 0, .int .i64 0, .int .i64 0, .int .i64 0, .int .i64 0] 23 (0, 0))) := ⟨by rw [← hq_]; exact (bk BK142)⟩; have n1_ : Aside0 (Below w.heap.size w w21) := ⟨by rw [← hq_]; exact bA⟩; clear BK142 HB hq_; have BK142 := n0_; have HB := n1_; clear n0_ n1_))))
 replace BK142 := as_ (blk_drew BK142.out)
 replace HB := as_ (below_drew1 HB.out)
 have p7 : 0 ≤ (0 : Int) := (by omega)
 have q7 : 0 < a0.size := (by have : (0 : Int) < (a0.size : Int) := of_decide_eq_true aM; omega)
 have hx7 : ∀ h : 0 < a0.size, ((a0[0]'h).toNat : Int) = bt a0 0 := bt_at a0 0
 clear p7
 have qi7 : (0 < (a0.size : Int)) = True := eq_true (of_decide_eq_true aM)
 replace q7 := eq_true q7
 have p9 : 0 ≤ (1 : Int) := (by omega)
 have q9 : 1 < a0.size := (by have : (1 : Int) < (a0.size : Int) := of_decide_eq_true aM; omega)
 have hx9 : ∀ h : 1 < a0.size, ((a0[1]'h).toNat : Int) = bt a0 1 := bt_at a0 1
 clear p9
 have qi9 : (1 < (a0.size : Int)) = True := eq_true (of_decide_eq_true aM)
 replace q9 := eq_true q9
 have p11 : 0 ≤ (2 : Int) := (by omega)
 have q11 : 2 < a0.size := (by have : (2 : Int) < (a0.size : Int) := of_decide_eq_true aM; omega)
 have hx11 : ∀ h : 2 < a0.size, ((a0[2]'h).toNat : Int) = bt a0 2 := bt_at a0 2
 clear p11
 have qi11 : (2 < (a0.size : Int)) = True := eq_true (of_decide_eq_true aM)
 replace q11 := eq_true q11
 have p13 : 0 ≤ (3 : Int) := (by omega)
 have q13 : 3 < a0.size := (by have : (3 : Int) < (a0.size : Int) := of_decide_eq_true aM; omega)
 have hx13 : ∀ h : 3 < a0.size, ((a0[3]'h).toNat : Int) = bt a0 3 := bt_at a0 3
 clear p13
 have qi13 : (3 < (a0.size : Int)) = True := eq_true (of_decide_eq_true aM)
 replace q13 := eq_true q13
 refine start_ (n := 21) (S := fun w' => True) (ds := []) #[ff, ff, ff, ff, ff, ff, ff, ff, ff, ff, ff, ff, ff, ff, ff, ff, ff, ff, ff, ff, ff] (by kernel_rfl) rfl rfl trivial (fun hHeld => ?_); refine with_tabW head_Open.tab5 head_Open.bits5 (fun HT_ HW_ => ?_)
 generalize w21.drew = w22 at BK142 HB hHeld ⊢
 refine pure_ (i := 0) (N := some 27) (v := ?_) (a' := ?_) #[tt, ff, ff, ff, ff, ff, ff, ff, ff, ff, ff, ff, ff, ff, ff, ff, ff, ff, ff, ff, ff] rfl rfl (any_of HT_.out (by kernel_rfl)) (fun _ _ _ h => h) (Or.inl ⟨by rfl, ?_⟩) ?_ ?_
 rotate_left
 ·intro w'
  go_simp
  with_reducible rfl
 rotate_left
 ·exact aP
 refine pure_ (i := 3) (N := some 30) (v := ?_) (a' := ?_) #[tt, ff, ff, tt, ff, ff, ff, ff, ff, ff, ff, ff, ff, ff, ff, ff, ff, ff, ff, ff, ff] rfl rfl (any_of HT_.out (by kernel_rfl)) (fun _ _ _ h => h) (Or.inl ⟨by rfl, ?_⟩) ?_ ?_
 rotate_left
 ·intro w'
  go_simp
  with_reducible rfl
 rotate_left
 ·exact aP
 refine pure_ (i := 6) (N := some 33) (v := ?_) (a' := ?_) #[tt, ff, ff, tt, ff, ff, tt, ff, ff, ff, ff, ff, ff, ff, ff, ff, ff, ff, ff, ff, ff] rfl rfl (any_of HT_.out (by kernel_rfl)) (fun _ _ _ h => h) (Or.inl ⟨by rfl, ?_⟩) ?_ ?_
 rotate_left
 ·intro w'
  go_simp
  with_reducible rfl
 rotate_left
 ·exact aP
 refine pure_ (i := 9) (N := some 36) (v := ?_) (a' := ?_) #[tt, ff, ff, tt, ff, ff, tt, ff, ff, tt, ff, ff, ff, ff, ff, ff, ff, ff, ff, ff, ff] rfl rfl (any_of HT_.out (by kernel_rfl)) (fun _ _ _ h => h) (Or.inl ⟨by rfl, ?_⟩) ?_ ?_
 rotate_left
 ·intro w'
  go_simp
  with_reducible rfl
 rotate_left
 ·exact aP
 refine pure_ (i := 14) (N := some 41) (v := ?_) (a' := ?_) #[tt, ff, ff, tt, ff, ff, tt, ff, ff, tt, ff, ff, ff, ff, tt, ff, ff, ff, ff, ff, ff] rfl rfl (any_of HT_.out (by kernel_rfl)) (fun _ _ _ h => h) (Or.inl ⟨by rfl, ?_⟩) ?_ ?_
 rotate_left
 ·intro w'
  go_simp
  with_reducible rfl
 rotate_left
 ·exact aP
 refine pure_ (i := 15) (N := some 42) (v := ?_) (a' := ?_) #[tt, ff, ff, tt, ff, ff, tt, ff, ff, tt, ff, ff, ff, ff, tt, tt, ff, ff, ff, ff, ff] rfl rfl (any_of HT_.out (by kernel_rfl)) (fun _ _ _ h => h) (Or.inl ⟨by rfl, ?_⟩) ?_ ?_
 rotate_left
 ·intro w'
  go_simp
  with_reducible rfl
 rotate_left
 ·exact aP
 refine pure_ (i := 16) (N := some 43) (v := ?_) (a' := ?_) #[tt, ff, ff, tt, ff, ff, tt, ff, ff, tt, ff, ff, ff, ff, tt, tt, tt, ff, ff, ff, ff] rfl rfl (any_of HT_.out (by kernel_rfl)) (fun _ _ _ h => h) (Or.inl ⟨by rfl, ?_⟩) ?_ ?_
 rotate_left
 ·intro w'
  go_simp
  with_reducible rfl
 rotate_left
 ·exact aP
 refine pure_ (i := 17) (N := some 44) (v := ?_) (a' := ?_) #[tt, ff, ff, tt, ff, ff, tt, ff, ff, tt, ff, ff, ff, ff, tt, tt, tt, tt, ff, ff, ff] rfl rfl (any_of HT_.out (by kernel_rfl)) (fun _ _ _ h => h) (Or.inl ⟨by rfl, ?_⟩) ?_ ?_
 rotate_left
 ·intro w'
  go_simp
  with_reducible rfl
 rotate_left
 ·exact aP
 refine take_ (i := 1) (N := some 28) (v := ?_) (a' := ?_) #[tt, tt, ff, tt, ff, ff, tt, ff, ff, tt, ff, ff, ff, ff, tt, tt, tt, tt, ff, ff, ff] rfl rfl (take_ofW HT_.out HW_.out (by kernel_rfl)) (fun _ _ _ h => h) (Or.inl ⟨by rfl, ?_⟩) hHeld ?_ ?_
 rotate_left
 ·intro w' _
  go_simp
  with_reducible rfl
 rotate_left
 ·exact aP
 refine pure_ (i := 2) (N := some 29) (v := ?_) (a' := ?_) #[tt, tt, tt, tt, ff, ff, tt, ff, ff, tt, ff, ff, ff, ff, tt, tt, tt, tt, ff, ff, ff] rfl rfl (any_of HT_.out (by kernel_rfl)) (fun _ _ _ h => h) (Or.inl ⟨by rfl, ?_⟩) ?_ ?_
 rotate_left
 ·intro w'
  go_simp
  with_reducible rfl
 rotate_left
 ·exact aP
 refine take_ (i := 4) (N := some 31) (v := ?_) (a' := ?_) #[tt, tt, tt, tt, tt, ff, tt, ff, ff, tt, ff, ff, ff, ff, tt, tt, tt, tt, ff, ff, ff] rfl rfl (take_ofW HT_.out HW_.out (by kernel_rfl)) (fun _ _ _ h => h) (Or.inl ⟨by rfl, ?_⟩) hHeld ?_ ?_
 rotate_left
 ·intro w' _
  go_simp
  with_reducible rfl
 rotate_left
 ·exact aP
 refine pure_ (i := 5) (N := some 32) (v := ?_) (a' := ?_) #[tt, tt, tt, tt, tt, tt, tt, ff, ff, tt, ff, ff, ff, ff, tt, tt, tt, tt, ff, ff, ff] rfl rfl (any_of HT_.out (by kernel_rfl)) (fun _ _ _ h => h) (Or.inl ⟨by rfl, ?_⟩) ?_ ?_
 rotate_left
 ·intro w'
  go_simp
  with_reducible rfl
 rotate_left
 ·exact aP
 refine take_ (i := 7) (N := some 34) (v := ?_) (a' := ?_) #[tt, tt, tt, tt, tt, tt, tt, tt, ff, tt, ff, ff, ff, ff, tt, tt, tt, tt, ff, ff, ff] rfl rfl (take_ofW HT_.out HW_.out (by kernel_rfl)) (fun _ _ _ h => h) (Or.inl ⟨by rfl, ?_⟩) hHeld ?_ ?_
 rotate_left
 ·intro w' _
  go_simp
  with_reducible rfl
 rotate_left
 ·exact aP
 refine pure_ (i := 8) (N := some 35) (v := ?_) (a' := ?_) #[tt, tt, tt, tt, tt, tt, tt, tt, tt, tt, ff, ff, ff, ff, tt, tt, tt, tt, ff, ff, ff] rfl rfl (any_of HT_.out (by kernel_rfl)) (fun _ _ _ h => h) (Or.inl ⟨by rfl, ?_⟩) ?_ ?_
 rotate_left
 ·intro w'
  go_simp
  with_reducible rfl
 rotate_left
 ·exact aP
 refine take_ (i := 10) (N := some 37) (v := ?_) (a' := ?_) #[tt, tt, tt, tt, tt, tt, tt, tt, tt, tt, tt, ff, ff, ff, tt, tt, tt, tt, ff, ff, ff] rfl rfl (take_ofW HT_.out HW_.out (by kernel_rfl)) (fun _ _ _ h => h) (Or.inl ⟨by rfl, ?_⟩) hHeld ?_ ?_
 rotate_left
 ·intro w' _
  go_simp
  with_reducible rfl
 rotate_left
 ·exact aP
 refine pure_ (i := 11) (N := some 38) (v := ?_) (a' := ?_) #[tt, tt, tt, tt, tt, tt, tt, tt, tt, tt, tt, tt, ff, ff, tt, tt, tt, tt, ff, ff, ff] rfl rfl (any_of HT_.out (by kernel_rfl)) (fun _ _ _ h => h) (Or.inl ⟨by rfl, ?_⟩) ?_ ?_
 rotate_left
 ·intro w'
  go_simp
  with_reducible rfl
 rotate_left
 ·exact aP
 refine pure_ (i := 12) (N := some 39) (v := ?_) (a' := ?_) #[tt, tt, tt, tt, tt, tt, tt, tt, tt, tt, tt, tt, tt, ff, tt, tt, tt, tt, ff, ff, ff] rfl rfl (any_of HT_.out (by kernel_rfl)) (fun _ _ _ h => h) (Or.inl ⟨by rfl, ?_⟩) ?_ ?_
 rotate_left
 ·intro w'
  go_simp
  with_reducible rfl
 rotate_left
 ·exact aP
 refine pure_ (i := 13) (N := some 40) (v := ?_) (a' := ?_) #[tt, tt, tt, tt, tt, tt, tt, tt, tt, tt, tt, tt, tt, tt, tt, tt, tt, tt, ff, ff, ff] rfl rfl (any_of HT_.out (by kernel_rfl)) (fun _ _ _ h => h) (Or.inl ⟨by rfl, ?_⟩) ?_ ?_
 rotate_left
 ·intro w'
  go_simp
  with_reducible rfl
 rotate_left
 ·exact aP
 refine pure_ (i := 18) (N := some 45) (v := ?_) (a' := ?_) #[tt, tt, tt, tt, tt, tt, tt, tt, tt, tt, tt, tt, tt, tt, tt, tt, tt, tt, tt, ff, ff] rfl rfl (any_of HT_.out (by kernel_rfl)) (fun _ _ _ h => h) (Or.inl ⟨by rfl, ?_⟩) ?_ ?_
 rotate_left
 ·intro w'
  go_simp
  with_reducible rfl
 rotate_left
 ·exact aP
 refine one_ (i := 19) (N := some 9) #[tt, tt, tt, tt, tt, tt, tt, tt, tt, tt, tt, tt, tt, tt, tt, tt, tt, tt, tt, tt, ff] rfl rfl (one_of HT_.out (by kernel_rfl)) (by decide) (fun K hK => ?_)
 refine box_step (by rfl) (N := 9) (by rfl) (cs := #[.int .i64 0, .int .i64 0, .int .i64 0, .int .i64 0, .int .i64 0]) (t := 23) gS ?_
 intro gb148 hg w23 hbox hb
 have BK148 := as_ (hbox)
 have GW148 := gw hg bA
 have GE148 := gw hg bA
 have NB142_148 := nl BK142 hg
 have NB148_142 := ng BK142 hg
 replace BK142 := bb BK142 hb
 replace HB := as_ (below_step bA hb)
 clear hb hbox hg
 refine hK.out _ _ trivial (fun hHeld => ?_)
 clear hK K
 refine norm_ (a' := ?_) ?_ ?_
 rotate_left
 ·show Act.put _ (some 9) _ = _
  simp only [Act.put, List.setIfInBounds_toArray, List.set_cons_zero, List.set_cons_succ, i64_w, i32_w]
  rfl
 refine one_ (i := 20) (N := none) #[tt, tt, tt, tt, tt, tt, tt, tt, tt, tt, tt, tt, tt, tt, tt, tt, tt, tt, tt, tt, tt] rfl rfl (one_of HT_.out (by kernel_rfl)) (by decide) (fun K hK => ?_)
 have hs24 : w23.cell? ⟨gb148, 0, none⟩ = some (.int .i64 0) := (blk_cell BK148.out 0).trans rfl
 have hfs24 := blk_frozen BK148.out 0
 have hns24_0 := NB142_148.out
 have hms24_0 := NB148_142.out
 have hs25 : w23.cell? ⟨gb148, 1, none⟩ = some (.int .i64 0) := (blk_cell BK148.out 1).trans rfl
 have hfs25 := blk_frozen BK148.out 1
 have hns25_0 := NB142_148.out
 have hms25_0 := NB148_142.out
 have hs26 : w23.cell? ⟨gb148, 2, none⟩ = some (.int .i64 0) := (blk_cell BK148.out 2).trans rfl
 have hfs26 := blk_frozen BK148.out 2
 have hns26_0 := NB142_148.out
 have hms26_0 := NB148_142.out
 have hs27 : w23.cell? ⟨gb148, 3, none⟩ = some (.int .i64 0) := (blk_cell BK148.out 3).trans rfl
 have hfs27 := blk_frozen BK148.out 3
 have hns27_0 := NB142_148.out
 have hms27_0 := NB148_142.out
 have hs28 : w23.cell? ⟨gb148, 4, none⟩ = some (.int .i64 0) := (blk_cell BK148.out 4).trans rfl
 have hfs28 := blk_frozen BK148.out 4
 have hns28_0 := NB142_148.out
 have hms28_0 := NB148_142.out
 refine skip_ (w1 := ?_) (by rfl) rfl ?_ ?_
 rotate_left
 ·go_simp
  rfl
 refine hK.out _ _ trivial (fun hHeld => ?_)
 clear hK K
 refine done_ (done_of HT_.out (by kernel_rfl)) ?_
 try go_wp2
 have n0_ : Aside0 ((((((w23.setCell ⟨gb148, 0, none⟩ (.int .i64 (wrap64 (bt a0 0)))).setCell ⟨gb148, 1, none⟩ (.int .i64 (wrap64 (bt a0 1)))).setCell ⟨gb148, 2, none⟩ (.int .i64 (wrap64 ((wrap64 (bt a0 2)) + (wrap64 (256 * (wrap64 (bt a0 3)))))))).setCell ⟨gb148, 3, none⟩ (.int .i64 (wrap64 (t144)))).setCell ⟨gb148, 4, none⟩ (.int .i64 (wrap64 (t146)))).heap[gb142]? = some (.cells #[.int .i64 0, .int .i64 0, .int .i64 0, .int .i64 0, .int .i64 0] 23 (0, 0))) := ⟨by refine bx ?_; refine blk_far ?_ NB142_148.out _; refine bx ?_; refine blk_far ?_ NB142_148.out _; refine bx ?_; refine blk_far ?_ NB142_148.out _; refine bx ?_; refine blk_far ?_ NB142_148.out _; refine bx ?_; refine blk_far ?_ NB142_148.out _; refine bx ?_; exact BK142.out⟩
 have n1_ : Aside0 ((((((w23.setCell ⟨gb148, 0, none⟩ (.int .i64 (wrap64 (bt a0 0)))).setCell ⟨gb148, 1, none⟩ (.int .i64 (wrap64 (bt a0 1)))).setCell ⟨gb148, 2, none⟩ (.int .i64 (wrap64 ((wrap64 (bt a0 2)) + (wrap64 (256 * (wrap64 (bt a0 3)))))))).setCell ⟨gb148, 3, none⟩ (.int .i64 (wrap64 (t144)))).setCell ⟨gb148, 4, none⟩ (.int .i64 (wrap64 (t146)))).heap[gb148]? = some (.cells #[.int .i64 (wrap64 (bt a0 0)), .int .i64 (wrap64 (bt a0 1)), .int .i64 (wrap64 ((wrap64 (bt a0 2)) + (wrap64 (256 * (wrap64 (bt a0 3)))))), .int .i64 (wrap64 (t144)), .int .i64 (wrap64 (t146))] 23 (0, 0))) := ⟨by refine bx ?_; refine blk_put (cs := #[.int .i64 (wrap64 (bt a0 0)), .int .i64 (wrap64 (bt a0 1)), .int .i64 (wrap64 ((wrap64 (bt a0 2)) + (wrap64 (256 * (wrap64 (bt a0 3)))))), .int .i64 (wrap64 (t144)), .int .i64 0]) ?_ 4 _ rfl; refine bx ?_; refine blk_put (cs := #[.int .i64 (wrap64 (bt a0 0)), .int .i64 (wrap64 (bt a0 1)), .int .i64 (wrap64 ((wrap64 (bt a0 2)) + (wrap64 (256 * (wrap64 (bt a0 3)))))), .int .i64 0, .int .i64 0]) ?_ 3 _ rfl; refine bx ?_; refine blk_put (cs := #[.int .i64 (wrap64 (bt a0 0)), .int .i64 (wrap64 (bt a0 1)), .int .i64 0, .int .i64 0, .int .i64 0]) ?_ 2 _ rfl; refine bx ?_; refine blk_put (cs := #[.int .i64 (wrap64 (bt a0 0)), .int .i64 0, .int .i64 0, .int .i64 0, .int .i64 0]) ?_ 1 _ rfl; refine bx ?_; refine blk_put (cs := #[.int .i64 0, .int .i64 0, .int .i64 0, .int .i64 0, .int .i64 0]) ?_ 0 _ rfl; refine bx ?_; exact BK148.out⟩
 have n2_ : Aside0 (Below w.heap.size w (((((w23.setCell ⟨gb148, 0, none⟩ (.int .i64 (wrap64 (bt a0 0)))).setCell ⟨gb148, 1, none⟩ (.int .i64 (wrap64 (bt a0 1)))).setCell ⟨gb148, 2, none⟩ (.int .i64 (wrap64 ((wrap64 (bt a0 2)) + (wrap64 (256 * (wrap64 (bt a0 3)))))))).setCell ⟨gb148, 3, none⟩ (.int .i64 (wrap64 (t144)))).setCell ⟨gb148, 4, none⟩ (.int .i64 (wrap64 (t146))))) := ⟨by repeat (first | (with_reducible first | exact HB.out | apply below_alloc | apply pw_below_drewN | apply below_drew1 | refine below_set ?_ GE142.out | refine below_set ?_ GE148.out) | exact HB.out)⟩
 (try clear BK142)
 (try clear BK148)
 (try clear HB)
 generalize (((((w23.setCell ⟨gb148, 0, none⟩ (.int .i64 (wrap64 (bt a0 0)))).setCell ⟨gb148, 1, none⟩ (.int .i64 (wrap64 (bt a0 1)))).setCell ⟨gb148, 2, none⟩ (.int .i64 (wrap64 ((wrap64 (bt a0 2)) + (wrap64 (256 * (wrap64 (bt a0 3)))))))).setCell ⟨gb148, 3, none⟩ (.int .i64 (wrap64 (t144)))).setCell ⟨gb148, 4, none⟩ (.int .i64 (wrap64 (t146)))) = w29 at n0_ n1_ n2_ ⊢
 have BK142 := n0_
 have BK148 := n1_
 have HB := n2_
 clear n0_ n1_ n2_
 replace BK142 := as_ (blk_drew BK142.out)
 replace BK148 := as_ (blk_drew BK148.out)
 replace HB := as_ (below_drew1 HB.out)
 refine start_ (n := 11) (S := fun w' => w'.cell? ⟨gb148, 0, none⟩ = some (.int .i64 (wrap64 (bt a0 0))) ∧ w'.cell? ⟨gb148, 1, none⟩ = some (.int .i64 (wrap64 (bt a0 1))) ∧ w'.cell? ⟨gb148, 2, none⟩ = some (.int .i64 (wrap64 ((wrap64 (bt a0 2)) + (wrap64 (256 * (wrap64 (bt a0 3))))))) ∧ w'.cell? ⟨gb148, 3, none⟩ = some (.int .i64 (wrap64 (t144))) ∧ w'.cell? ⟨gb148, 4, none⟩ = some (.int .i64 (wrap64 (t146)))) (ds := []) #[ff, ff, ff, ff, ff, ff, ff, ff, ff, ff, ff] (by kernel_rfl) rfl rfl ⟨(blk_cell BK148.out 0).trans rfl, (blk_cell BK148.out 1).trans rfl, (blk_cell BK148.out 2).trans rfl, (blk_cell BK148.out 3).trans rfl, (blk_cell BK148.out 4).trans rfl⟩ (fun hHeld => ?_); refine with_tabW head_Open.tab6 head_Open.bits6 (fun HT_ HW_ => ?_)
 generalize w29.drew = w30 at BK142 BK148 HB hHeld ⊢
 refine pure_ (i := 1) (N := some 48) (v := ?_) (a' := ?_) #[ff, tt, ff, ff, ff, ff, ff, ff, ff, ff, ff] rfl rfl (any_of HT_.out (by kernel_rfl)) (fun _ _ _ h => h) (Or.inl ⟨by rfl, ?_⟩) ?_ ?_
 rotate_left
 ·intro w'
  go_simp
  with_reducible rfl
 rotate_left
 ·exact aP
 refine pure_ (i := 2) (N := some 49) (v := ?_) (a' := ?_) #[ff, tt, tt, ff, ff, ff, ff, ff, ff, ff, ff] rfl rfl (any_of HT_.out (by kernel_rfl)) (fun _ _ _ h => h) (Or.inl ⟨by rfl, ?_⟩) ?_ ?_
 rotate_left
 ·intro w'
  go_simp
  with_reducible rfl
 rotate_left
 ·exact aP
 refine pure_ (i := 3) (N := some 50) (v := ?_) (a' := ?_) #[ff, tt, tt, tt, ff, ff, ff, ff, ff, ff, ff] rfl rfl (any_of HT_.out (by kernel_rfl)) (fun _ _ _ h => h) (Or.inl ⟨by rfl, ?_⟩) ?_ ?_
 rotate_left
 ·intro w'
  go_simp
  with_reducible rfl
 rotate_left
 ·exact aP
 refine pure_ (i := 4) (N := some 51) (v := ?_) (a' := ?_) #[ff, tt, tt, tt, tt, ff, ff, ff, ff, ff, ff] rfl rfl (any_of HT_.out (by kernel_rfl)) (fun _ _ _ h => h) (Or.inl ⟨by rfl, ?_⟩) ?_ ?_
 rotate_left
 ·intro w'
  go_simp
  with_reducible rfl
 rotate_left
 ·exact aP
 refine take_ (i := 0) (N := some 47) (v := ?_) (a' := ?_) #[tt, tt, tt, tt, tt, ff, ff, ff, ff, ff, ff] rfl rfl (take_ofW HT_.out HW_.out (by kernel_rfl)) (fun _ _ _ h => h) (Or.inl ⟨by rfl, ?_⟩) hHeld ?_ ?_
 rotate_left
 ·rintro w' ⟨s0, s1, s2, s3, s4⟩
  go_simp
  with_reducible rfl
 rotate_left
 ·exact aP
 refine one_ (i := 5) (N := some 52) #[tt, tt, tt, tt, tt, tt, ff, ff, ff, ff, ff] rfl rfl (one_of HT_.out (by kernel_rfl)) (by decide) (fun K hK => ?_)
 refine goes_ Try.func9 (by kernel_rfl) rfl #[.agg #[.int .i64 (wrap64 (bt a0 0)), .int .i64 (wrap64 (bt a0 1)), .int .i64 (wrap64 ((wrap64 (bt a0 2)) + (wrap64 (256 * (wrap64 (bt a0 3)))))), .int .i64 (wrap64 (t144)), .int .i64 (wrap64 (t146))], .string js15, .int .i64 (a0.size : Int)] (by rfl) rfl rfl aO ?_
 with_reducible refine (head_Seal.calls k (wrap64 (bt a0 0)) (wrap64 (bt a0 1)) (wrap64 ((wrap64 (bt a0 2)) + (wrap64 (256 * (wrap64 (bt a0 3)))))) (wrap64 (t144)) (wrap64 (t146)) js15 (a0.size : Int) t149 t150 _ A16.out).mono ?_
 rintro e w31 ⟨rfl, hb⟩
 refine ⟨_, rfl, ?_⟩
 replace BK142 := bb BK142 hb
 replace BK148 := bb BK148 hb
 replace HB := as_ (below_step bA hb)
 (try clear hb)
 (try clear hb2)
 (try clear hk)
 (try clear hi)
 refine hK.out _ _ ⟨(blk_cell BK148.out 0).trans rfl, (blk_cell BK148.out 1).trans rfl, (blk_cell BK148.out 2).trans rfl, (blk_cell BK148.out 3).trans rfl, (blk_cell BK148.out 4).trans rfl⟩ (fun hHeld => ?_)
 clear hK K
 refine norm_ (a' := ?_) ?_ ?_
 rotate_left
 ·show Act.put _ (some 52) _ = _
  simp only [Act.put, List.setIfInBounds_toArray, List.set_cons_zero, List.set_cons_succ, i64_w, i32_w]
  rfl
 refine pure_ (i := 6) (N := some 46) (v := ?_) (a' := ?_) #[tt, tt, tt, tt, tt, tt, tt, ff, ff, ff, ff] rfl rfl (any_of HT_.out (by kernel_rfl)) (fun _ _ _ h => h) (Or.inl ⟨by rfl, ?_⟩) ?_ ?_
 rotate_left
 ·intro w'
  go_simp
  with_reducible rfl
 rotate_left
 ·exact aP
 refine pure_ (i := 7) (N := some 53) (v := ?_) (a' := ?_) #[tt, tt, tt, tt, tt, tt, tt, tt, ff, ff, ff] rfl rfl (any_of HT_.out (by kernel_rfl)) (fun _ _ _ h => h) (Or.inl ⟨by rfl, ?_⟩) ?_ ?_
 rotate_left
 ·intro w'
  go_simp
  with_reducible rfl
 rotate_left
 ·exact aP
 refine pure_ (i := 8) (N := some 54) (v := ?_) (a' := ?_) #[tt, tt, tt, tt, tt, tt, tt, tt, tt, ff, ff] rfl rfl (any_of HT_.out (by kernel_rfl)) (fun _ _ _ h => h) (Or.inl ⟨by rfl, ?_⟩) ?_ ?_
 rotate_left
 ·intro w'
  go_simp
  with_reducible rfl
 rotate_left
 ·exact aP
 refine pure_ (i := 9) (N := some 10) (v := ?_) (a' := ?_) #[tt, tt, tt, tt, tt, tt, tt, tt, tt, tt, ff] rfl rfl (any_of HT_.out (by kernel_rfl)) (fun _ _ _ h => h) (Or.inl ⟨by rfl, ?_⟩) ?_ ?_
 rotate_left
 ·intro w'
  go_simp
  with_reducible rfl
 rotate_left
 ·exact aP
 refine pure_ (i := 10) (N := some 11) (v := ?_) (a' := ?_) #[tt, tt, tt, tt, tt, tt, tt, tt, tt, tt, tt] rfl rfl (any_of HT_.out (by kernel_rfl)) (fun _ _ _ h => h) (Or.inl ⟨by rfl, ?_⟩) ?_ ?_
 rotate_left
 ·intro w'
  go_simp
  with_reducible rfl
 rotate_left
 ·exact aP
 refine done_ (done_of HT_.out (by kernel_rfl)) ?_
 try go_wp2
 replace BK142 := as_ (blk_drew BK142.out)
 replace BK148 := as_ (blk_drew BK148.out)
 replace HB := as_ (below_drew1 HB.out)
 refine start_ (n := 6) (S := fun w' => w'.cell? ⟨gb148, 0, none⟩ = some (.int .i64 (wrap64 (bt a0 0))) ∧ w'.cell? ⟨gb148, 1, none⟩ = some (.int .i64 (wrap64 (bt a0 1))) ∧ w'.cell? ⟨gb148, 2, none⟩ = some (.int .i64 (wrap64 ((wrap64 (bt a0 2)) + (wrap64 (256 * (wrap64 (bt a0 3))))))) ∧ w'.cell? ⟨gb148, 3, none⟩ = some (.int .i64 (wrap64 (t144))) ∧ w'.cell? ⟨gb148, 4, none⟩ = some (.int .i64 (wrap64 (t146)))) (ds := []) #[ff, ff, ff, ff, ff, ff] (by kernel_rfl) rfl rfl ⟨(blk_cell BK148.out 0).trans rfl, (blk_cell BK148.out 1).trans rfl, (blk_cell BK148.out 2).trans rfl, (blk_cell BK148.out 3).trans rfl, (blk_cell BK148.out 4).trans rfl⟩ (fun hHeld => ?_)
 generalize w31.drew = w32 at BK142 BK148 HB hHeld ⊢
 refine pure_ (i := 1) (N := some 64) (v := ?_) (a' := ?_) #[ff, tt, ff, ff, ff, ff] rfl rfl (by kernel_rfl) (fun _ _ _ h => h) (Or.inl ⟨by rfl, ?_⟩) ?_ ?_
 rotate_left
 ·intro w'
  go_simp
  with_reducible rfl
 rotate_left
 ·exact aP
 refine pure_ (i := 2) (N := some 65) (v := ?_) (a' := ?_) #[ff, tt, tt, ff, ff, ff] rfl rfl (by kernel_rfl) (fun _ _ _ h => h) (Or.inl ⟨by rfl, ?_⟩) ?_ ?_
 rotate_left
 ·intro w'
  go_simp
  with_reducible rfl
 rotate_left
 ·exact aP
 refine take_ (i := 0) (N := some 63) (v := ?_) (a' := ?_) #[tt, tt, tt, ff, ff, ff] rfl rfl (by kernel_rfl) (fun _ _ _ h => h) (Or.inl ⟨by rfl, ?_⟩) hHeld ?_ ?_
 rotate_left
 ·rintro w' ⟨s0, s1, s2, s3, s4⟩
  go_simp
  with_reducible rfl
 rotate_left
 ·exact aP
 refine one_ (i := 3) (N := none) #[tt, tt, tt, tt, ff, ff] rfl rfl (by kernel_rfl) (by decide) (fun K hK => ?_)
 have hs33 : w32.cell? ⟨gb142, 0, none⟩ = some (.int .i64 0) := (blk_cell BK142.out 0).trans rfl
 have hfs33 := blk_frozen BK142.out 0
 have hns33_1 := NB148_142.out
 have hms33_1 := NB142_148.out
 have hs34 : w32.cell? ⟨gb142, 1, none⟩ = some (.int .i64 0) := (blk_cell BK142.out 1).trans rfl
 have hfs34 := blk_frozen BK142.out 1
 have hns34_1 := NB148_142.out
 have hms34_1 := NB142_148.out
 have hs35 : w32.cell? ⟨gb142, 2, none⟩ = some (.int .i64 0) := (blk_cell BK142.out 2).trans rfl
 have hfs35 := blk_frozen BK142.out 2
 have hns35_1 := NB148_142.out
 have hms35_1 := NB142_148.out
 have hs36 : w32.cell? ⟨gb142, 3, none⟩ = some (.int .i64 0) := (blk_cell BK142.out 3).trans rfl
 have hfs36 := blk_frozen BK142.out 3
 have hns36_1 := NB148_142.out
 have hms36_1 := NB142_148.out
 have hs37 : w32.cell? ⟨gb142, 4, none⟩ = some (.int .i64 0) := (blk_cell BK142.out 4).trans rfl
 have hfs37 := blk_frozen BK142.out 4
 have hns37_1 := NB148_142.out
 have hms37_1 := NB142_148.out
 refine skip_ (w1 := ?_) (by rfl) rfl ?_ ?_
 rotate_left
 ·go_simp
  rfl
 refine hK.out _ _ ⟨((cell_far (p := ⟨gb142, _, none⟩) NB148_142.out _).trans (((cell_far (p := ⟨gb142, _, none⟩) NB148_142.out _).trans (((cell_far (p := ⟨gb142, _, none⟩) NB148_142.out _).trans (((cell_far (p := ⟨gb142, _, none⟩) NB148_142.out _).trans (((cell_far (p := ⟨gb142, _, none⟩) NB148_142.out _).trans (hHeld.1)))))))))), ((cell_far (p := ⟨gb142, _, none⟩) NB148_142.out _).trans (((cell_far (p := ⟨gb142, _, none⟩) NB148_142.out _).trans (((cell_far (p := ⟨gb142, _, none⟩) NB148_142.out _).trans (((cell_far (p := ⟨gb142, _, none⟩) NB148_142.out _).trans (((cell_far (p := ⟨gb142, _, none⟩) NB148_142.out _).trans (hHeld.2.1)))))))))), ((cell_far (p := ⟨gb142, _, none⟩) NB148_142.out _).trans (((cell_far (p := ⟨gb142, _, none⟩) NB148_142.out _).trans (((cell_far (p := ⟨gb142, _, none⟩) NB148_142.out _).trans (((cell_far (p := ⟨gb142, _, none⟩) NB148_142.out _).trans (((cell_far (p := ⟨gb142, _, none⟩) NB148_142.out _).trans (hHeld.2.2.1)))))))))), ((cell_far (p := ⟨gb142, _, none⟩) NB148_142.out _).trans (((cell_far (p := ⟨gb142, _, none⟩) NB148_142.out _).trans (((cell_far (p := ⟨gb142, _, none⟩) NB148_142.out _).trans (((cell_far (p := ⟨gb142, _, none⟩) NB148_142.out _).trans (((cell_far (p := ⟨gb142, _, none⟩) NB148_142.out _).trans (hHeld.2.2.2.1)))))))))), ((cell_far (p := ⟨gb142, _, none⟩) NB148_142.out _).trans (((cell_far (p := ⟨gb142, _, none⟩) NB148_142.out _).trans (((cell_far (p := ⟨gb142, _, none⟩) NB148_142.out _).trans (((cell_far (p := ⟨gb142, _, none⟩) NB148_142.out _).trans (((cell_far (p := ⟨gb142, _, none⟩) NB148_142.out _).trans (hHeld.2.2.2.2))))))))))⟩ (fun hHeld => ?_)
 clear hK K
 refine pure_ (i := 4) (N := some 3) (v := ?_) (a' := ?_) #[tt, tt, tt, tt, tt, ff] rfl rfl (by kernel_rfl) (fun _ _ _ h => h) (Or.inl ⟨by rfl, ?_⟩) ?_ ?_
 rotate_left
 ·intro w'
  go_simp
  with_reducible rfl
 rotate_left
 ·exact aP
 refine pure_ (i := 5) (N := some 4) (v := ?_) (a' := ?_) #[tt, tt, tt, tt, tt, tt] rfl rfl (by kernel_rfl) (fun _ _ _ h => h) (Or.inl ⟨by rfl, ?_⟩) ?_ ?_
 rotate_left
 ·intro w'
  go_simp
  with_reducible rfl
 rotate_left
 ·exact aP
 refine done_ (by kernel_rfl) ?_
 try go_wp2
 refine bodyPost_ret (results_ctt rfl _ _ gb142 23 #[.int .i64 (wrap64 (bt a0 0)), .int .i64 (wrap64 (bt a0 1)), .int .i64 (wrap64 ((wrap64 (bt a0 2)) + (wrap64 (256 * (wrap64 (bt a0 3)))))), .int .i64 (wrap64 (t144)), .int .i64 (wrap64 (t146))] (0, 0) _ rfl (by refine bx ?_; refine blk_put (cs := #[.int .i64 (wrap64 (bt a0 0)), .int .i64 (wrap64 (bt a0 1)), .int .i64 (wrap64 ((wrap64 (bt a0 2)) + (wrap64 (256 * (wrap64 (bt a0 3)))))), .int .i64 (wrap64 (t144)), .int .i64 0]) ?_ 4 _ rfl; refine bx ?_; refine blk_put (cs := #[.int .i64 (wrap64 (bt a0 0)), .int .i64 (wrap64 (bt a0 1)), .int .i64 (wrap64 ((wrap64 (bt a0 2)) + (wrap64 (256 * (wrap64 (bt a0 3)))))), .int .i64 0, .int .i64 0]) ?_ 3 _ rfl; refine bx ?_; refine blk_put (cs := #[.int .i64 (wrap64 (bt a0 0)), .int .i64 (wrap64 (bt a0 1)), .int .i64 0, .int .i64 0, .int .i64 0]) ?_ 2 _ rfl; refine bx ?_; refine blk_put (cs := #[.int .i64 (wrap64 (bt a0 0)), .int .i64 0, .int .i64 0, .int .i64 0, .int .i64 0]) ?_ 1 _ rfl; refine bx ?_; refine blk_put (cs := #[.int .i64 0, .int .i64 0, .int .i64 0, .int .i64 0, .int .i64 0]) ?_ 0 _ rfl; refine bx ?_; exact BK142.out) Try.underlying23 rfl (by kernel_rfl)) rfl ?_
 exact ⟨by first | rfl | (simp [errW_none, errW_some] <;> rfl) | (simp only [← hjs15]; first | rfl | (simp [errW_none, errW_some] <;> rfl)) | (simp [*, errW_none, errW_some] <;> rfl), by repeat (first | (with_reducible first | exact HB.out | apply below_alloc | apply pw_below_drewN | apply below_drew1 | refine below_set ?_ GE142.out | refine below_set ?_ GE148.out) | exact HB.out)⟩
end Go.Proofs.Ytnfnmjjdcaphjaa.P
