/- What is proved here: for functions of the Go text, a Lean function each, and that the call comes to just what it answers. Conditions: as each contract names them. Written by wip/tools/myprint.py, a driver of the print of the kit. -/
import Derived.Test.YthaicofleloplaaDoorP0
import Derived.Test.YthaicofleloplaaDoorP9
import Derived.Test.YthaicofleloplaaDoorP10
import Derived.Test.YthaicofleloplaaDoorWAbbr
namespace Go.Proofs.YthaicofleloplaaDoor.P
open Go.RowKit Go.Proofs.YthaicofleloplaaDoorW.PrintWords Go.Proofs.YthaicofleloplaaDoorW.PrintLast Go.Proofs.YthaicofleloplaaDoorW.PrintMore Go.Proofs.YthaicofleloplaaDoorW.Abbr
-- PACKED
attribute [local go_sem] max2_int min2_int max_two min_two max_three min_three max_four min_four Go.Proofs.YthaicofleloplaaDoorLaws.str_leq Go.Proofs.YthaicofleloplaaDoorLaws.str_gtr Go.Proofs.YthaicofleloplaaDoorLaws.str_geq Go.Proofs.YthaicofleloplaaDoorLaws.max2_str Go.Proofs.YthaicofleloplaaDoorLaws.min2_str   -- for this text's walks alone
set_option linter.unusedVariables false
set_option linter.unusedSimpArgs false

/-! ### withyref03_text: function 47 -/
def withyref03_text.l0 : Nat → ByteArray → Int → List Int → Option (ByteArray × Int × Int)
 | 0, _, _, _ => none
 | k + 1, x0, x1, x7 => if x1 < (x0.size : Int) then (if 0 ≤ x1 then (if (bt x0 x1) = 0 then (if (wrap64 (x1 + 1)) = (x0.size : Int) then (some ((⟨#[]⟩ : ByteArray), 0, 7)) else (if 0 ≤ (wrap64 (x1 + 1)) then (if (wrap64 (x1 + 1)) < (x0.size : Int) then (if (bt x0 (wrap64 (x1 + 1))) = 1 then (some (strOfNums x7, wrap64 (x1 + 2), 0)) else (if (bt x0 (wrap64 (x1 + 1))) = 255 then (if x7.length < 140737488355328 then (withyref03_text.l0 k x0 (wrap64 (x1 + 2)) (x7 ++ [0])) else (none)) else (some ((⟨#[]⟩ : ByteArray), 0, 3)))) else (none)) else (none))) else (if x7.length < 140737488355328 then (withyref03_text.l0 k x0 (wrap64 (x1 + 1)) (x7 ++ [bt x0 x1])) else (none))) else (none)) else (some ((⟨#[]⟩ : ByteArray), 0, 7))
def withyref03_text.f (k : Nat) (a0 : ByteArray) (a1 : Int) : Option (ByteArray × Int × Int) := withyref03_text.l0 k a0 a1 (([] : List Int))
theorem withyref03_text.mono_l : ∀ k, (∀ y0 y1 y2, LeO (withyref03_text.l0 k y0 y1 y2) (withyref03_text.l0 (k + 1) y0 y1 y2))
 | 0 => fun _ _ _ r h => by simp [withyref03_text.l0] at h
 | k + 1 => by
  have ih0 := withyref03_text.mono_l k
  ·intro y0 y1 y2
   unfold withyref03_text.l0
   repeat' first
   | (with_reducible exact ih0 _ _ _)
   | (with_reducible exact LeO.refl _)
   | (with_reducible exact LeO.none _)
   | (with_reducible refine LeO.ite ?_ ?_)
   | (with_reducible refine LeO.bind ?_ (fun _ => ?_))
   | exact ih0 _ _ _
   | exact LeO.none _
   | refine LeO.ite ?_ ?_
   | refine LeO.bind ?_ (fun _ => ?_)
theorem withyref03_text.mono : ∀ a0 a1 k, LeO (withyref03_text.f k a0 a1) (withyref03_text.f (k + 1) a0 a1) := by
 intro a0 a1 k
 have ih0 := withyref03_text.mono_l k
 unfold withyref03_text.f
 repeat' first
   | (with_reducible exact ih0 _ _ _)
   | (with_reducible exact LeO.refl _)
   | (with_reducible exact LeO.none _)
   | (with_reducible refine LeO.ite ?_ ?_)
   | (with_reducible refine LeO.bind ?_ (fun _ => ?_))
   | exact ih0 _ _ _
   | exact LeO.none _
   | refine LeO.ite ?_ ?_
   | refine LeO.bind ?_ (fun _ => ?_)
set_option maxHeartbeats 8000000 in
set_option maxRecDepth 100000 in
theorem withyref03_text.calls (k : Nat) (a0 : ByteArray) (a1 : Int) (r1 : ByteArray) (r2 : Int) (r3 : Int) (w : World) (h : withyref03_text.f k a0 a1 = some (r1, r2, r3)) :
  Calls Tryd.prog 47 #[.string a0, .int .i64 a1] w fun e w' => e = .returned (.tuple #[.string r1, .int .i64 r2, .int .i64 r3]) ∧ Below w.heap.size w w' := by
 have HB := as_ (Below.refl w.heap.size w)
 have H : (withyref03_text.l0 k a0 a1 (([] : List Int))) = some (r1, r2, r3) := h
 clear h
 obtain ⟨y244, hy244⟩ : ∃ y_ : List Int, y_ = (([] : List Int)) := ⟨_, rfl⟩
 replace H : (withyref03_text.l0 k a0 a1 y244) = some (r1, r2, r3) := by first | (rw [hy244]; with_reducible exact H) | (have H2_ := (Option.bind_some _ _).symm.trans H; rw [hy244]; with_reducible exact H2_) | (have H2_ := (Option.bind_some _ _).symm.trans H; with_reducible exact H2_) | with_reducible exact H | (rw [hy244]; exact H) | exact H
 have Ny244 := Aside0.mk hy244
 clear hy244
 have H' := Aside0.mk H
 clear H
 go_enter Tryd.func47, Tryd.ntmps47
 go_wp2_with (first | ((with_reducible refine gate_dst (N := 8) rfl ?_); refine Kd.R_lit (Kd.int .u8) _ 5 ?hg (N := 8) ?hd (xs := ([] : List Int)) (inner := []) (ok := fun _ => True) (okp := fun _ => True) ?hr ?hp (fun _ hk => hk) trivial (Below.refl _ _) (Nat.le_refl _) (by simp) ?_; (case hd => rfl); (case hg => rfl); (case hr => first | (go_simp; done) | (go_simp; rfl)); (case hp => exact (Reps.none _ _)); intro v245 w3 ho4 hb hg_ hnew_; clear hg_ hnew_; (first | rw [← Ny244.out] at ho4 | (simp only [Int.reduceToNat] at ho4; rw [← Ny244.out] at ho4)); have HO246 := as_ (Kd.R_lower ho4 (below_size bA)); replace HB := as_ (below_step bA hb); clear hb ho4))
 go_loopg [1, 7] k (fun kq v1 v7 w' => ∃ (x1_1 : Int) (x7_1 : List Int), v1 = .int .i64 x1_1 ∧ Aside0 (withyref03_text.l0 kq a0 x1_1 x7_1 = some (r1, r2, r3)) ∧ Aside0 (kq ≤ k) ∧ Aside0 (Kd.R (Kd.int .u8) 5 w' w.heap.size (fun _ => True) v7 x7_1) ∧ Aside0 (Below w.heap.size w w'))
 case atStart => exact ⟨(a1), (y244), (by first | rfl | (simp; done) | (simp [*]; done)), H', ⟨Nat.le_refl _⟩, ⟨by (with_reducible repeat (first | apply Kd.R_alloc | apply Kd.R_drewN | apply Kd.R_drew)); exact HO246.out⟩, ⟨by repeat (first | (with_reducible first | exact HB.out | apply below_alloc | apply pw_below_drewN | apply below_drew1) | exact HB.out)⟩⟩
 case round =>
  clear H'
  try clear p2
  try clear c4
  obtain ⟨x1_1, x7_1, rfl, HA, HK1, HO_7, HB⟩ := hrel
  cases gk with
  | zero => exact absurd HA.out (by simp [withyref03_text.l0])
  | succ k1 =>
   have H := HA.out
   clear HA
   simp only [withyref03_text.l0] at H
   by_cases c5 : x1_1 < (a0.size : Int)
   rotate_left
   ·rw [if_neg c5] at H
    have c5b0 : decide (x1_1 < (a0.size : Int)) = false := decide_eq_false c5
    clear c5
    simp only [Option.some.injEq, Prod.mk.injEq] at H
    obtain ⟨rfl, rfl, rfl⟩ := H
    go_wp2
    go_ret3
    exact ⟨eW, by repeat (first | (with_reducible first | exact HB.out | apply below_alloc | apply pw_below_drewN | apply below_drew1) | exact HB.out)⟩
 
   rw [if_pos c5] at H
   have c5b0 : decide (x1_1 < (a0.size : Int)) = true := decide_eq_true c5
   clear c5
   by_cases c6 : 0 ≤ x1_1
   rotate_left
   ·rw [if_neg c6] at H
    exact absurd H (by simp)
   rw [if_pos c6] at H
   have c6b0 : decide (0 ≤ x1_1) = true := decide_eq_true c6
   clear c6
   by_cases c8 : (bt a0 x1_1) = 0
   rotate_left
   ·rw [if_neg c8] at H
    have c8b0 : ((bt a0 x1_1) == 0) = false := beq_eq_false_iff_ne.mpr c8
    have c8b1 : ((bt a0 x1_1) != 0) = true := bne_iff_ne.mpr c8
    by_cases c21 : x7_1.length < 140737488355328
    rotate_left
    ·rw [if_neg c21] at H
     exact absurd H (by simp)
    rw [if_pos c21] at H
    have LMc21 := Aside0.mk c21
    clear c21
    obtain ⟨y247, hy247⟩ : ∃ y_ : List Int, y_ = (x7_1 ++ [bt a0 x1_1]) := ⟨_, rfl⟩
    replace H : (withyref03_text.l0 k1 a0 (wrap64 (x1_1 + 1)) y247) = some (r1, r2, r3) := by first | (rw [hy247]; with_reducible exact H) | (have H2_ := (Option.bind_some _ _).symm.trans H; rw [hy247]; with_reducible exact H2_) | (have H2_ := (Option.bind_some _ _).symm.trans H; with_reducible exact H2_) | with_reducible exact H | (rw [hy247]; exact H) | exact H
    have Ny247 := Aside0.mk hy247
    clear hy247
    have H' := Aside0.mk H
    clear H
    have p7 : 0 ≤ (x1_1 : Int) := of_decide_eq_true aM
    have q7 : x1_1 < (a0.size : Int) := of_decide_eq_true aM
    have hx7 := bt_at a0 x1_1
    replace p7 := eq_true p7
    replace q7 := eq_true q7
    have p20 : 0 ≤ (x1_1 : Int) := of_decide_eq_true aM
    have q20 : x1_1 < (a0.size : Int) := of_decide_eq_true aM
    have hx20 := bt_at a0 x1_1
    replace p20 := eq_true p20
    replace q20 := eq_true q20
    go_wp2_with (first | ((with_reducible refine gate_builtin (b := .append) (xs := #[.tmp 17, .tmp 21]) rfl ?_); at_builtin; refine Kd.R_append (Kd.int .u8) (w0 := w) w.heap.size rfl (.tmp 17) (.tmp 21) 45 5 (.int .u8 0) 1 rfl Tryd.underlying45 info5 rfl (by decide) (by omega) u7 x7_1 (bt a0 x1_1) [.int .u8 (bt a0 x1_1)] (fun _ => True) (fun _ => False) rfl rfl ?aP (fun _ hk => hk.elim) ?aF ?aO ?aB ?aS ?aL ?_; (case aP => exact rfl); (case aB => exact bA); (case aF => exact (fun _ _ => trivial)); (case aO => exact (by (with_reducible repeat (first | apply Kd.R_alloc | apply Kd.R_drewN | apply Kd.R_drew)); exact HO_7.out)); (case aS => exact (below_size bA)); (case aL => have := LMc21.out; omega); intro v248 w22 ho hb hg hat; rw [← Ny247.out] at ho; have HO249 := as_ (ho); replace HB := as_ (hb); clear HO_7; clear ho hb hg hat))
    go_roundg k1
    case measure => have := HK1.out; omega
    case rel => exact ⟨(wrap64 (x1_1 + 1)), (y247), (by first | rfl | (simp; done) | (simp [*]; done)), H', ⟨by have := HK1.out; omega⟩, ⟨by (with_reducible repeat (first | apply Kd.R_alloc | apply Kd.R_drewN | apply Kd.R_drew)); exact HO249.out⟩, ⟨by repeat (first | (with_reducible first | exact HB.out | apply below_alloc | apply pw_below_drewN | apply below_drew1) | exact HB.out)⟩⟩
   rw [if_pos c8] at H
   have c8b0 : ((bt a0 x1_1) == 0) = true := beq_iff_eq.mpr c8
   have c8b1 : ((bt a0 x1_1) != 0) = false := bne_eq_false_iff_eq.mpr c8
   clear c8
   by_cases c9 : (wrap64 (x1_1 + 1)) = (a0.size : Int)
   ·rw [if_pos c9] at H
    have c9b0 : ((wrap64 (x1_1 + 1)) == (a0.size : Int)) = true := beq_iff_eq.mpr c9
    have c9b1 : ((wrap64 (x1_1 + 1)) != (a0.size : Int)) = false := bne_eq_false_iff_eq.mpr c9
    clear c9
    simp only [Option.some.injEq, Prod.mk.injEq] at H
    obtain ⟨rfl, rfl, rfl⟩ := H
    have p7 : 0 ≤ (x1_1 : Int) := of_decide_eq_true aM
    have q7 : x1_1 < (a0.size : Int) := of_decide_eq_true aM
    have hx7 := bt_at a0 x1_1
    replace p7 := eq_true p7
    replace q7 := eq_true q7
    go_wp2
    go_ret3
    exact ⟨eW, by repeat (first | (with_reducible first | exact HB.out | apply below_alloc | apply pw_below_drewN | apply below_drew1) | exact HB.out)⟩
   rw [if_neg c9] at H
   have c9b0 : ((wrap64 (x1_1 + 1)) == (a0.size : Int)) = false := beq_eq_false_iff_ne.mpr c9
   have c9b1 : ((wrap64 (x1_1 + 1)) != (a0.size : Int)) = true := bne_iff_ne.mpr c9
   obtain ⟨ji10, hji10⟩ : ∃ j_ : Int, (wrap64 (x1_1 + 1)) = j_ := ⟨_, rfl⟩
   replace H : (if 0 ≤ (ji10) then (if (ji10) < (a0.size : Int) then (if (bt a0 (ji10)) = 1 then (some (strOfNums x7_1, wrap64 (x1_1 + 2), 0)) else (if (bt a0 (ji10)) = 255 then (if x7_1.length < 140737488355328 then (withyref03_text.l0 k1 a0 (wrap64 (x1_1 + 2)) (x7_1 ++ [0])) else (none)) else (some ((⟨#[]⟩ : ByteArray), 0, 3)))) else (none)) else (none)) = some (r1, r2, r3) := by first | (rw [hji10] at H; exact H) | (simp only [hji10] at H ⊢; exact H)
   (try rw [hji10] at c9b0)
   (try rw [hji10] at c9b1)
   have hji10w : (IntKind.i64.wrap (x1_1 + 1)) = ji10 := (i64_w _).trans hji10
   by_cases c11 : 0 ≤ (ji10)
   rotate_left
   ·rw [if_neg c11] at H
    exact absurd H (by simp)
   rw [if_pos c11] at H
   have c11b0 : decide (0 ≤ (ji10)) = true := decide_eq_true c11
   clear c11
   by_cases c12 : (ji10) < (a0.size : Int)
   rotate_left
   ·rw [if_neg c12] at H
    exact absurd H (by simp)
   rw [if_pos c12] at H
   have c12b0 : decide ((ji10) < (a0.size : Int)) = true := decide_eq_true c12
   clear c12
   by_cases c14 : (bt a0 (ji10)) = 1
   ·rw [if_pos c14] at H
    have c14b0 : ((bt a0 (ji10)) == 1) = true := beq_iff_eq.mpr c14
    have c14b1 : ((bt a0 (ji10)) != 1) = false := bne_eq_false_iff_eq.mpr c14
    clear c14
    simp only [Option.some.injEq, Prod.mk.injEq] at H
    obtain ⟨rfl, rfl, rfl⟩ := H
    have p7 : 0 ≤ (x1_1 : Int) := of_decide_eq_true aM
    have q7 : x1_1 < (a0.size : Int) := of_decide_eq_true aM
    have hx7 := bt_at a0 x1_1
    replace p7 := eq_true p7
    replace q7 := eq_true q7
    have p13 : 0 ≤ ((ji10) : Int) := of_decide_eq_true aM
    have q13 : (ji10) < (a0.size : Int) := of_decide_eq_true aM
    have hx13 := bt_at a0 (ji10)
    replace p13 := eq_true p13
    replace q13 := eq_true q13
    have hcv15 := own_string (P := Tryd.prog) Tryd.underlying45 Tryd.underlying5 Tryd.underlying9 (Kd.own_of_R HO_7.out)
    go_wp2
    go_ret3
    exact ⟨by first | rfl | (simp [errW_none, errW_some] <;> rfl) | (simp only [← hji10]; first | rfl | (simp [errW_none, errW_some] <;> rfl)) | (simp [*, errW_none, errW_some] <;> rfl), by repeat (first | (with_reducible first | exact HB.out | apply below_alloc | apply pw_below_drewN | apply below_drew1) | exact HB.out)⟩
   rw [if_neg c14] at H
   have c14b0 : ((bt a0 (ji10)) == 1) = false := beq_eq_false_iff_ne.mpr c14
   have c14b1 : ((bt a0 (ji10)) != 1) = true := bne_iff_ne.mpr c14
   by_cases c17 : (bt a0 (ji10)) = 255
   rotate_left
   ·rw [if_neg c17] at H
    have c17b0 : ((bt a0 (ji10)) == 255) = false := beq_eq_false_iff_ne.mpr c17
    have c17b1 : ((bt a0 (ji10)) != 255) = true := bne_iff_ne.mpr c17
    simp only [Option.some.injEq, Prod.mk.injEq] at H
    obtain ⟨rfl, rfl, rfl⟩ := H
    have p7 : 0 ≤ (x1_1 : Int) := of_decide_eq_true aM
    have q7 : x1_1 < (a0.size : Int) := of_decide_eq_true aM
    have hx7 := bt_at a0 x1_1
    replace p7 := eq_true p7
    replace q7 := eq_true q7
    have p13 : 0 ≤ ((ji10) : Int) := of_decide_eq_true aM
    have q13 : (ji10) < (a0.size : Int) := of_decide_eq_true aM
    have hx13 := bt_at a0 (ji10)
    replace p13 := eq_true p13
    replace q13 := eq_true q13
    have p16 : 0 ≤ ((ji10) : Int) := of_decide_eq_true aM
    have q16 : (ji10) < (a0.size : Int) := of_decide_eq_true aM
    have hx16 := bt_at a0 (ji10)
    replace p16 := eq_true p16
    replace q16 := eq_true q16
    go_wp2
    go_ret3
    exact ⟨by first | rfl | (simp [errW_none, errW_some] <;> rfl) | (simp only [← hji10]; first | rfl | (simp [errW_none, errW_some] <;> rfl)) | (simp [*, errW_none, errW_some] <;> rfl), by repeat (first | (with_reducible first | exact HB.out | apply below_alloc | apply pw_below_drewN | apply below_drew1) | exact HB.out)⟩
   rw [if_pos c17] at H
   have c17b0 : ((bt a0 (ji10)) == 255) = true := beq_iff_eq.mpr c17
   have c17b1 : ((bt a0 (ji10)) != 255) = false := bne_eq_false_iff_eq.mpr c17
   clear c17
   by_cases c18 : x7_1.length < 140737488355328
   rotate_left
   ·rw [if_neg c18] at H
    exact absurd H (by simp)
   rw [if_pos c18] at H
   have LMc18 := Aside0.mk c18
   clear c18
   obtain ⟨y250, hy250⟩ : ∃ y_ : List Int, y_ = (x7_1 ++ [0]) := ⟨_, rfl⟩
   replace H : (withyref03_text.l0 k1 a0 (wrap64 (x1_1 + 2)) y250) = some (r1, r2, r3) := by first | (rw [hy250]; with_reducible exact H) | (have H2_ := (Option.bind_some _ _).symm.trans H; rw [hy250]; with_reducible exact H2_) | (have H2_ := (Option.bind_some _ _).symm.trans H; with_reducible exact H2_) | with_reducible exact H | (rw [hy250]; exact H) | exact H
   have Ny250 := Aside0.mk hy250
   clear hy250
   have H' := Aside0.mk H
   clear H
   have p7 : 0 ≤ (x1_1 : Int) := of_decide_eq_true aM
   have q7 : x1_1 < (a0.size : Int) := of_decide_eq_true aM
   have hx7 := bt_at a0 x1_1
   replace p7 := eq_true p7
   replace q7 := eq_true q7
   have p13 : 0 ≤ ((ji10) : Int) := of_decide_eq_true aM
   have q13 : (ji10) < (a0.size : Int) := of_decide_eq_true aM
   have hx13 := bt_at a0 (ji10)
   replace p13 := eq_true p13
   replace q13 := eq_true q13
   have p16 : 0 ≤ ((ji10) : Int) := of_decide_eq_true aM
   have q16 : (ji10) < (a0.size : Int) := of_decide_eq_true aM
   have hx16 := bt_at a0 (ji10)
   replace p16 := eq_true p16
   replace q16 := eq_true q16
   go_wp2_with (first | ((with_reducible refine gate_builtin (b := .append) (xs := #[.tmp 44, .tmp 45]) rfl ?_); at_builtin; refine Kd.R_append (Kd.int .u8) (w0 := w) w.heap.size rfl (.tmp 44) (.tmp 45) 45 5 (.int .u8 0) 1 rfl Tryd.underlying45 info5 rfl (by decide) (by omega) u7 x7_1 0 [.int .u8 0] (fun _ => True) (fun _ => False) rfl rfl ?aP (fun _ hk => hk.elim) ?aF ?aO ?aB ?aS ?aL ?_; (case aP => exact rfl); (case aB => exact bA); (case aF => exact (fun _ _ => trivial)); (case aO => exact (by (with_reducible repeat (first | apply Kd.R_alloc | apply Kd.R_drewN | apply Kd.R_drew)); exact HO_7.out)); (case aS => exact (below_size bA)); (case aL => have := LMc18.out; omega); intro v251 w19 ho hb hg hat; rw [← Ny250.out] at ho; have HO252 := as_ (ho); replace HB := as_ (hb); clear HO_7; clear ho hb hg hat))
   go_roundg k1
   case measure => have := HK1.out; omega
   case rel => exact ⟨(wrap64 (x1_1 + 2)), (y250), (by first | rfl | (simp; done) | (simp [*]; done)), H', ⟨by have := HK1.out; omega⟩, ⟨by (with_reducible repeat (first | apply Kd.R_alloc | apply Kd.R_drewN | apply Kd.R_drew)); exact HO252.out⟩, ⟨by repeat (first | (with_reducible first | exact HB.out | apply below_alloc | apply pw_below_drewN | apply below_drew1) | exact HB.out)⟩⟩
/-! ### withyref03_Get: function 27 -/
mutual
def withyref03_Get.j0 : Nat → ByteArray → Int → Bool → Option (Int × Int × Int × ByteArray × Int × Int)
 | 0, _, _, _ => none
 | k + 1, x0, x1, x22 => if x22 = true then (some (0, 0, 0, (⟨#[]⟩ : ByteArray), 0, 4)) else (if x1 = (x0.size : Int) then (some (0, 0, 0, (⟨#[]⟩ : ByteArray), 0, 7)) else (if 0 ≤ x1 then (if x1 < (x0.size : Int) then (if (bt x0 x1) = 16 then (some (0, 0, 0, (⟨#[]⟩ : ByteArray), wrap64 (x1 + 1), 0)) else (if (bt x0 x1) = 32 then (withyref03_Get.j1 k x0 x1 (bt x0 x1) ((bt x0 x1) == 32)) else (withyref03_Get.j1 k x0 x1 (bt x0 x1) ((bt x0 x1) == 33)))) else (none)) else (none)))
def withyref03_Get.j1 : Nat → ByteArray → Int → Int → Bool → Option (Int × Int × Int × ByteArray × Int × Int)
 | 0, _, _, _, _ => none
 | k + 1, x0, x1, x31, x37 => if x37 = true then (if 0 ≤ x1 then (if x1 < (x0.size : Int) then (some (1, 0, IntKind.u64.wrap ((IntKind.u64.wrap (bt x0 x1)) - 32), (⟨#[]⟩ : ByteArray), wrap64 (x1 + 1), 0)) else (none)) else (none)) else (if x31 = 48 then (if (wrap64 (x1 + 9)) > (x0.size : Int) then (some (0, 0, 0, (⟨#[]⟩ : ByteArray), 0, 7)) else (withyref03_Get.l0 k x0 x1 0 1)) else (if x31 = 64 then ((withyref01_Get.f k x0 (wrap64 (x1 + 1))).bind fun bt254 => (if bt254.2.2 = 0 then (some (3, 0, bt254.1, (⟨#[]⟩ : ByteArray), bt254.2.1, 0)) else (some (0, 0, 0, (⟨#[]⟩ : ByteArray), 0, bt254.2.2)))) else (if x31 = 80 then ((withyref03_text.f k x0 (wrap64 (x1 + 1))).bind fun bt257 => (if bt257.2.2 = 0 then (some (4, 0, 0, bt257.1, bt257.2.1, 0)) else (some (0, 0, 0, (⟨#[]⟩ : ByteArray), 0, bt257.2.2)))) else (some (0, 0, 0, (⟨#[]⟩ : ByteArray), 0, 3)))))
def withyref03_Get.l0 : Nat → ByteArray → Int → Int → Int → Option (Int × Int × Int × ByteArray × Int × Int)
 | 0, _, _, _, _ => none
 | k + 1, x0, x1, x7, x8 => if x8 < 9 then (if 0 ≤ (wrap64 (x1 + x8)) then (if (wrap64 (x1 + x8)) < (x0.size : Int) then (withyref03_Get.l0 k x0 x1 (IntKind.u64.wrap ((IntKind.u64.wrap (x7 * 256)) + (IntKind.u64.wrap (bt x0 (wrap64 (x1 + x8)))))) (wrap64 (x8 + 1))) else (none)) else (none)) else (some (2, wrap64 (IntKind.u64.wrap (x7 - 9223372036854775808)), 0, (⟨#[]⟩ : ByteArray), wrap64 (x1 + 9), 0))
end
def withyref03_Get.f (k : Nat) (a0 : ByteArray) (a1 : Int) : Option (Int × Int × Int × ByteArray × Int × Int) := if a1 < 0 then (withyref03_Get.j0 k a0 a1 true) else (withyref03_Get.j0 k a0 a1 (decide (a1 > (a0.size : Int))))
theorem withyref03_Get.mono_l : ∀ k, (∀ y0 y1 y2, LeO (withyref03_Get.j0 k y0 y1 y2) (withyref03_Get.j0 (k + 1) y0 y1 y2)) ∧ (∀ y0 y1 y2 y3, LeO (withyref03_Get.j1 k y0 y1 y2 y3) (withyref03_Get.j1 (k + 1) y0 y1 y2 y3)) ∧ (∀ y0 y1 y2 y3, LeO (withyref03_Get.l0 k y0 y1 y2 y3) (withyref03_Get.l0 (k + 1) y0 y1 y2 y3))
 | 0 => ⟨fun _ _ _ r h => by simp [withyref03_Get.j0] at h, fun _ _ _ _ r h => by simp [withyref03_Get.j1] at h, fun _ _ _ _ r h => by simp [withyref03_Get.l0] at h⟩
 | k + 1 => by
  obtain ⟨ih0, ih1, ih2⟩ := withyref03_Get.mono_l k
  refine ⟨?_, ?_, ?_⟩
  ·intro y0 y1 y2
   unfold withyref03_Get.j0
   repeat' first
   | (with_reducible exact ih0 _ _ _)
   | (with_reducible exact ih1 _ _ _ _)
   | (with_reducible exact ih2 _ _ _ _)
   | (with_reducible exact withyref01_Get.mono _ _ _)
   | (with_reducible exact withyref03_text.mono _ _ _)
   | (with_reducible exact LeO.refl _)
   | (with_reducible exact LeO.none _)
   | (with_reducible refine LeO.ite ?_ ?_)
   | (with_reducible refine LeO.bind ?_ (fun _ => ?_))
   | exact ih0 _ _ _
   | exact ih1 _ _ _ _
   | exact ih2 _ _ _ _
   | exact withyref01_Get.mono _ _ _
   | exact withyref03_text.mono _ _ _
   | exact LeO.none _
   | refine LeO.ite ?_ ?_
   | refine LeO.bind ?_ (fun _ => ?_)
  ·intro y0 y1 y2 y3
   unfold withyref03_Get.j1
   repeat' first
   | (with_reducible exact ih0 _ _ _)
   | (with_reducible exact ih1 _ _ _ _)
   | (with_reducible exact ih2 _ _ _ _)
   | (with_reducible exact withyref01_Get.mono _ _ _)
   | (with_reducible exact withyref03_text.mono _ _ _)
   | (with_reducible exact LeO.refl _)
   | (with_reducible exact LeO.none _)
   | (with_reducible refine LeO.ite ?_ ?_)
   | (with_reducible refine LeO.bind ?_ (fun _ => ?_))
   | exact ih0 _ _ _
   | exact ih1 _ _ _ _
   | exact ih2 _ _ _ _
   | exact withyref01_Get.mono _ _ _
   | exact withyref03_text.mono _ _ _
   | exact LeO.none _
   | refine LeO.ite ?_ ?_
   | refine LeO.bind ?_ (fun _ => ?_)
  ·intro y0 y1 y2 y3
   unfold withyref03_Get.l0
   repeat' first
   | (with_reducible exact ih0 _ _ _)
   | (with_reducible exact ih1 _ _ _ _)
   | (with_reducible exact ih2 _ _ _ _)
   | (with_reducible exact withyref01_Get.mono _ _ _)
   | (with_reducible exact withyref03_text.mono _ _ _)
   | (with_reducible exact LeO.refl _)
   | (with_reducible exact LeO.none _)
   | (with_reducible refine LeO.ite ?_ ?_)
   | (with_reducible refine LeO.bind ?_ (fun _ => ?_))
   | exact ih0 _ _ _
   | exact ih1 _ _ _ _
   | exact ih2 _ _ _ _
   | exact withyref01_Get.mono _ _ _
   | exact withyref03_text.mono _ _ _
   | exact LeO.none _
   | refine LeO.ite ?_ ?_
   | refine LeO.bind ?_ (fun _ => ?_)
theorem withyref03_Get.mono : ∀ a0 a1 k, LeO (withyref03_Get.f k a0 a1) (withyref03_Get.f (k + 1) a0 a1) := by
 intro a0 a1 k
 obtain ⟨ih0, ih1, ih2⟩ := withyref03_Get.mono_l k
 unfold withyref03_Get.f
 repeat' first
   | (with_reducible exact ih0 _ _ _)
   | (with_reducible exact ih1 _ _ _ _)
   | (with_reducible exact ih2 _ _ _ _)
   | (with_reducible exact withyref01_Get.mono _ _ _)
   | (with_reducible exact withyref03_text.mono _ _ _)
   | (with_reducible exact LeO.refl _)
   | (with_reducible exact LeO.none _)
   | (with_reducible refine LeO.ite ?_ ?_)
   | (with_reducible refine LeO.bind ?_ (fun _ => ?_))
   | exact ih0 _ _ _
   | exact ih1 _ _ _ _
   | exact ih2 _ _ _ _
   | exact withyref01_Get.mono _ _ _
   | exact withyref03_text.mono _ _ _
   | exact LeO.none _
   | refine LeO.ite ?_ ?_
   | refine LeO.bind ?_ (fun _ => ?_)
set_option maxHeartbeats 8000000 in
set_option maxRecDepth 100000 in
theorem withyref03_Get.calls (k : Nat) (a0 : ByteArray) (a1 : Int) (r1 : Int) (r2 : Int) (r3 : Int) (r4 : ByteArray) (r5 : Int) (r6 : Int) (w : World) (h : withyref03_Get.f k a0 a1 = some (r1, r2, r3, r4, r5, r6)) :
  Calls Tryd.prog 27 #[.string a0, .int .i64 a1] w fun e w' => e = .returned (.tuple #[.agg #[.int .i64 r1, .int .i64 r2, .int .u64 r3, .string r4], .int .i64 r5, .int .i64 r6]) ∧ Below w.heap.size w w' := by
 have hu56 := Tryd.underlying56
 have HB := as_ (Below.refl w.heap.size w)
 have H : (if a1 < 0 then (withyref03_Get.j0 k a0 a1 true) else (withyref03_Get.j0 k a0 a1 (decide (a1 > (a0.size : Int))))) = some (r1, r2, r3, r4, r5, r6) := h
 clear h
 have HC3 := Aside0.mk H
 clear H
 go_enter Tryd.func27, Tryd.ntmps27
 go_upto_region 1 with (first | ((with_reducible refine gate_dst (N := 4) rfl ?_); (try (refine gate_guard (by rfl) ?_; dsimp only)); refine box_event ?hg (N := 4) ?hd (cs := #[.int .i64 0, .int .i64 0, .int .u64 0, .string (⟨#[]⟩ : ByteArray)]) (t := 56) ?hr ?_; (case hd => rfl); (case hg => rfl); (case hr => first | (go_simp; done) | (go_simp; rfl)); intro gb253 hg w4 hbox hb; have BK253 := as_ (hbox); have GW253 := gw hg bA; have GE253 := gw hg bA; replace HB := as_ (below_step bA hb); clear hb hbox hg))
 (try simp only [Act.put, List.setIfInBounds_toArray, List.set_cons_zero, List.set_cons_succ])
 go_cut [22] (fun v22 wc => ∃ (kq : Nat) (x22_2 : Bool), v22 = .bool x22_2 ∧ Aside0 (withyref03_Get.j0 kq a0 a1 x22_2 = some (r1, r2, r3, r4, r5, r6)) ∧ Aside0 (kq ≤ k) ∧ Aside0 (wc.heap[gb253]? = some (.cells #[.int .i64 0, .int .i64 0, .int .u64 0, .string (⟨#[]⟩ : ByteArray)] 56 (0, 0))) ∧ Aside0 (Below w.heap.size w wc))
 case first =>
  have H := HC3.out
  clear HC3
  by_cases c5 : a1 < 0
  rotate_left
  ·rw [if_neg c5] at H
   have c5b0 : decide (a1 < 0) = false := decide_eq_false c5
   clear c5
   (first | rw [c5b0] | (simp only [i64_w, i32_w]; rw [c5b0]) | rw [c5b1] | skip)
   have H' := Aside0.mk H
   clear H
   go_wp2
   go_meet
   case rel => exact ⟨_, (decide (a1 > (a0.size : Int))), (by first | rfl | (simp; done) | (simp [*]; done)), H', ⟨by first | omega | exact Nat.le_refl _⟩, ⟨by refine bx ?_; exact BK253.out⟩, ⟨by repeat (first | (with_reducible first | exact HB.out | apply below_alloc | apply pw_below_drewN | apply below_drew1 | refine below_set ?_ GE253.out) | exact HB.out)⟩⟩
  rw [if_pos c5] at H
  have c5b0 : decide (a1 < 0) = true := decide_eq_true c5
  clear c5
  (first | rw [c5b0] | (simp only [i64_w, i32_w]; rw [c5b0]) | rw [c5b1] | skip)
  have H' := Aside0.mk H
  clear H
  go_wp2
  go_meet
  case rel => exact ⟨_, (true), (by first | rfl | (simp; done) | (simp [*]; done)), H', ⟨by first | omega | exact Nat.le_refl _⟩, ⟨by refine bx ?_; exact BK253.out⟩, ⟨by repeat (first | (with_reducible first | exact HB.out | apply below_alloc | apply pw_below_drewN | apply below_drew1 | refine below_set ?_ GE253.out) | exact HB.out)⟩⟩
 case rest =>
  clear HC3
  try clear c2
  try clear p2
  try clear c5
  try clear c5b0
  try clear c5b1
  obtain ⟨kq, x22_2, rfl, HA, HJ2, BK253, HB⟩ := hcut
  cases kq with
  | zero => exact absurd HA.out (by simp [withyref03_Get.j0])
  | succ kj2 =>
   have H := HA.out
   clear HA
   simp only [withyref03_Get.j0] at H
   by_cases c6 : x22_2 = true
   ·subst c6
    have H1 : (some (0, 0, 0, (⟨#[]⟩ : ByteArray), 0, 4)) = some (r1, r2, r3, r4, r5, r6) := by rw [if_pos rfl] at H; exact H
    clear H
    have H := H1
    clear H1
    simp only [Option.some.injEq, Prod.mk.injEq] at H
    obtain ⟨rfl, rfl, rfl, rfl, rfl, rfl⟩ := H
    obtain ⟨hcz7_0, hcz7_1, hcz7_2, hcz7_3⟩ := zc4 BK253
    obtain ⟨hfz7_0, hfz7_1, hfz7_2, hfz7_3⟩ := zf4 BK253
    go_wp2
    refine bodyPost_ret (results_ctt rfl _ _ gb253 56 #[.int .i64 0, .int .i64 0, .int .u64 0, .string (⟨#[]⟩ : ByteArray)] (0, 0) _ rfl (by refine bx ?_; refine blk_put (cs := #[.int .i64 0, .int .i64 0, .int .u64 0, .string (⟨#[]⟩ : ByteArray)]) ?_ 3 _ rfl; refine bx ?_; refine blk_put (cs := #[.int .i64 0, .int .i64 0, .int .u64 0, .string (⟨#[]⟩ : ByteArray)]) ?_ 2 _ rfl; refine bx ?_; refine blk_put (cs := #[.int .i64 0, .int .i64 0, .int .u64 0, .string (⟨#[]⟩ : ByteArray)]) ?_ 1 _ rfl; refine bx ?_; refine blk_put (cs := #[.int .i64 0, .int .i64 0, .int .u64 0, .string (⟨#[]⟩ : ByteArray)]) ?_ 0 _ rfl; refine bx ?_; exact BK253.out) Tryd.underlying56 rfl (by kernel_rfl)) rfl ?_
    exact ⟨eW, by repeat (first | (with_reducible first | exact HB.out | apply below_alloc | apply pw_below_drewN | apply below_drew1 | refine below_set ?_ GE253.out) | exact HB.out)⟩
   replace c6 := Bool.eq_false_iff.mpr c6
   subst c6
   have H1 : (if a1 = (a0.size : Int) then (some (0, 0, 0, (⟨#[]⟩ : ByteArray), 0, 7)) else (if 0 ≤ a1 then (if a1 < (a0.size : Int) then (if (bt a0 a1) = 16 then (some (0, 0, 0, (⟨#[]⟩ : ByteArray), wrap64 (a1 + 1), 0)) else (if (bt a0 a1) = 32 then (withyref03_Get.j1 kj2 a0 a1 (bt a0 a1) ((bt a0 a1) == 32)) else (withyref03_Get.j1 kj2 a0 a1 (bt a0 a1) ((bt a0 a1) == 33)))) else (none)) else (none))) = some (r1, r2, r3, r4, r5, r6) := by rw [if_neg (show ¬ (false = true) by decide)] at H; exact H
   clear H
   have H := H1
   clear H1
   by_cases c8 : a1 = (a0.size : Int)
   ·rw [if_pos c8] at H
    have c8b0 : (a1 == (a0.size : Int)) = true := beq_iff_eq.mpr c8
    have c8b1 : (a1 != (a0.size : Int)) = false := bne_eq_false_iff_eq.mpr c8
    clear c8
    simp only [Option.some.injEq, Prod.mk.injEq] at H
    obtain ⟨rfl, rfl, rfl, rfl, rfl, rfl⟩ := H
    obtain ⟨hcz9_0, hcz9_1, hcz9_2, hcz9_3⟩ := zc4 BK253
    obtain ⟨hfz9_0, hfz9_1, hfz9_2, hfz9_3⟩ := zf4 BK253
    go_wp2
    refine bodyPost_ret (results_ctt rfl _ _ gb253 56 #[.int .i64 0, .int .i64 0, .int .u64 0, .string (⟨#[]⟩ : ByteArray)] (0, 0) _ rfl (by refine bx ?_; refine blk_put (cs := #[.int .i64 0, .int .i64 0, .int .u64 0, .string (⟨#[]⟩ : ByteArray)]) ?_ 3 _ rfl; refine bx ?_; refine blk_put (cs := #[.int .i64 0, .int .i64 0, .int .u64 0, .string (⟨#[]⟩ : ByteArray)]) ?_ 2 _ rfl; refine bx ?_; refine blk_put (cs := #[.int .i64 0, .int .i64 0, .int .u64 0, .string (⟨#[]⟩ : ByteArray)]) ?_ 1 _ rfl; refine bx ?_; refine blk_put (cs := #[.int .i64 0, .int .i64 0, .int .u64 0, .string (⟨#[]⟩ : ByteArray)]) ?_ 0 _ rfl; refine bx ?_; exact BK253.out) Tryd.underlying56 rfl (by kernel_rfl)) rfl ?_
    exact ⟨eW, by repeat (first | (with_reducible first | exact HB.out | apply below_alloc | apply pw_below_drewN | apply below_drew1 | refine below_set ?_ GE253.out) | exact HB.out)⟩
   rw [if_neg c8] at H
   have c8b0 : (a1 == (a0.size : Int)) = false := beq_eq_false_iff_ne.mpr c8
   have c8b1 : (a1 != (a0.size : Int)) = true := bne_iff_ne.mpr c8
   by_cases c10 : 0 ≤ a1
   rotate_left
   ·rw [if_neg c10] at H
    exact absurd H (by simp)
 
   rw [if_pos c10] at H
   have c10b0 : decide (0 ≤ a1) = true := decide_eq_true c10
   clear c10
   by_cases c11 : a1 < (a0.size : Int)
   rotate_left
   ·rw [if_neg c11] at H
    exact absurd H (by simp)
   rw [if_pos c11] at H
   have c11b0 : decide (a1 < (a0.size : Int)) = true := decide_eq_true c11
   clear c11
   by_cases c13 : (bt a0 a1) = 16
   ·rw [if_pos c13] at H
    have c13b0 : ((bt a0 a1) == 16) = true := beq_iff_eq.mpr c13
    have c13b1 : ((bt a0 a1) != 16) = false := bne_eq_false_iff_eq.mpr c13
    clear c13
    simp only [Option.some.injEq, Prod.mk.injEq] at H
    obtain ⟨rfl, rfl, rfl, rfl, rfl, rfl⟩ := H
    have p12 : 0 ≤ (a1 : Int) := of_decide_eq_true aM
    have q12 : a1 < (a0.size : Int) := of_decide_eq_true aM
    have hx12 := bt_at a0 a1
    replace p12 := eq_true p12
    replace q12 := eq_true q12
    obtain ⟨hcz14_0, hcz14_1, hcz14_2, hcz14_3⟩ := zc4 BK253
    obtain ⟨hfz14_0, hfz14_1, hfz14_2, hfz14_3⟩ := zf4 BK253
    go_wp2
    refine bodyPost_ret (results_ctt rfl _ _ gb253 56 #[.int .i64 0, .int .i64 0, .int .u64 0, .string (⟨#[]⟩ : ByteArray)] (0, 0) _ rfl (by refine bx ?_; refine blk_put (cs := #[.int .i64 0, .int .i64 0, .int .u64 0, .string (⟨#[]⟩ : ByteArray)]) ?_ 3 _ rfl; refine bx ?_; refine blk_put (cs := #[.int .i64 0, .int .i64 0, .int .u64 0, .string (⟨#[]⟩ : ByteArray)]) ?_ 2 _ rfl; refine bx ?_; refine blk_put (cs := #[.int .i64 0, .int .i64 0, .int .u64 0, .string (⟨#[]⟩ : ByteArray)]) ?_ 1 _ rfl; refine bx ?_; refine blk_put (cs := #[.int .i64 0, .int .i64 0, .int .u64 0, .string (⟨#[]⟩ : ByteArray)]) ?_ 0 _ rfl; refine bx ?_; exact BK253.out) Tryd.underlying56 rfl (by kernel_rfl)) rfl ?_
    exact ⟨eW, by repeat (first | (with_reducible first | exact HB.out | apply below_alloc | apply pw_below_drewN | apply below_drew1 | refine below_set ?_ GE253.out) | exact HB.out)⟩
   rw [if_neg c13] at H
   have c13b0 : ((bt a0 a1) == 16) = false := beq_eq_false_iff_ne.mpr c13
   have c13b1 : ((bt a0 a1) != 16) = true := bne_iff_ne.mpr c13
   have HC15 := Aside0.mk H
   clear H
   have p12 : 0 ≤ (a1 : Int) := of_decide_eq_true aM
   have q12 : a1 < (a0.size : Int) := of_decide_eq_true aM
   have hx12 := bt_at a0 a1
   replace p12 := eq_true p12
   replace q12 := eq_true q12
   go_upto_if 37 with (fail)
   go_cut [37] (fun v37 wc => ∃ (kq : Nat) (x37_14 : Bool), v37 = .bool x37_14 ∧ Aside0 (withyref03_Get.j1 kq a0 a1 (bt a0 a1) x37_14 = some (r1, r2, r3, r4, r5, r6)) ∧ Aside0 (kq ≤ kj2) ∧ Aside0 (wc.heap[gb253]? = some (.cells #[.int .i64 0, .int .i64 0, .int .u64 0, .string (⟨#[]⟩ : ByteArray)] 56 (0, 0))) ∧ Aside0 (Below w.heap.size w wc))
   case first =>
    have H := HC15.out
    clear HC15
    by_cases c16 : (bt a0 a1) = 32
    rotate_left
    ·rw [if_neg c16] at H
     have c16b0 : ((bt a0 a1) == 32) = false := beq_eq_false_iff_ne.mpr c16
     have c16b1 : ((bt a0 a1) != 32) = true := bne_iff_ne.mpr c16
     (first | rw [c16b0] | (simp only [i64_w, i32_w]; rw [c16b0]) | rw [c16b1] | skip)
     have H' := Aside0.mk H
     clear H
     go_wp2
     go_meet
     case rel => exact ⟨_, (((bt a0 a1) == 33)), (by first | rfl | (simp; done) | (simp [*]; done)), H', ⟨by have := HJ2.out; first | omega | exact Nat.le_refl _⟩, ⟨by refine bx ?_; exact BK253.out⟩, ⟨by repeat (first | (with_reducible first | exact HB.out | apply below_alloc | apply pw_below_drewN | apply below_drew1 | refine below_set ?_ GE253.out) | exact HB.out)⟩⟩
    rw [if_pos c16] at H
    have c16b0 : ((bt a0 a1) == 32) = true := beq_iff_eq.mpr c16
    have c16b1 : ((bt a0 a1) != 32) = false := bne_eq_false_iff_eq.mpr c16
    clear c16
    (first | rw [c16b0] | (simp only [i64_w, i32_w]; rw [c16b0]) | rw [c16b1] | skip)
    have H' := Aside0.mk H
    clear H
    go_wp2
    go_meet
    case rel => exact ⟨_, (((bt a0 a1) == 32)), (by first | rfl | (simp; done) | (simp [*]; done)), H', ⟨by have := HJ2.out; first | omega | exact Nat.le_refl _⟩, ⟨by refine bx ?_; exact BK253.out⟩, ⟨by repeat (first | (with_reducible first | exact HB.out | apply below_alloc | apply pw_below_drewN | apply below_drew1 | refine below_set ?_ GE253.out) | exact HB.out)⟩⟩
   case rest =>
    clear HC15
    try clear c1
    try clear p1
    try clear q1
    try clear hx1
    try clear c2
    try clear p2
    try clear c5
    try clear c5b0
    try clear c5b1
    try clear c6
    try clear p6
    try clear c8
    try clear c8b0
    try clear c8b1
    try clear c10
    try clear c10b0
    try clear c11
    try clear c11b0
    try clear p12
    try clear q12
    try clear hx12
    try clear c13
    try clear c13b0
    try clear c13b1
    try clear c16
    try clear c16b0
    try clear c16b1
    try clear hcz14_0
    try clear hcz14_1
    try clear hcz14_2
    try clear hcz14_3
    try clear hcz7_0
    try clear hcz7_1
    try clear hcz7_2
    try clear hcz7_3
    try clear hcz9_0
    try clear hcz9_1
    try clear hcz9_2
    try clear hcz9_3
    try clear hfz14_0
    try clear hfz14_1
    try clear hfz14_2
    try clear hfz14_3
    try clear hfz7_0
    try clear hfz7_1
    try clear hfz7_2
    try clear hfz7_3
    try clear hfz9_0
    try clear hfz9_1
    try clear hfz9_2
    try clear hfz9_3
    try clear p12
    try clear p2
    try clear q12
    obtain ⟨kq, x37_14, rfl, HA, HJ14, BK253, HB⟩ := hcut
    cases kq with
    | zero => exact absurd HA.out (by simp [withyref03_Get.j1])
    | succ kj14 =>
     have H := HA.out
     clear HA
     simp only [withyref03_Get.j1] at H
     by_cases c17 : x37_14 = true
     ·subst c17
      have H1 : (if 0 ≤ a1 then (if a1 < (a0.size : Int) then (some (1, 0, IntKind.u64.wrap ((IntKind.u64.wrap (bt a0 a1)) - 32), (⟨#[]⟩ : ByteArray), wrap64 (a1 + 1), 0)) else (none)) else (none)) = some (r1, r2, r3, r4, r5, r6) := by rw [if_pos rfl] at H; exact H
      clear H
      have H := H1
      clear H1
      by_cases c18 : 0 ≤ a1
      rotate_left
      ·rw [if_neg c18] at H
       exact absurd H (by simp)
      rw [if_pos c18] at H
      have c18b0 : decide (0 ≤ a1) = true := decide_eq_true c18
      clear c18
      by_cases c19 : a1 < (a0.size : Int)
      rotate_left
      ·rw [if_neg c19] at H
       exact absurd H (by simp)
      rw [if_pos c19] at H
      have c19b0 : decide (a1 < (a0.size : Int)) = true := decide_eq_true c19
      clear c19
      simp only [Option.some.injEq, Prod.mk.injEq] at H
      obtain ⟨rfl, rfl, rfl, rfl, rfl, rfl⟩ := H
      have p20 : 0 ≤ (a1 : Int) := of_decide_eq_true aM
      have q20 : a1 < (a0.size : Int) := of_decide_eq_true aM
      have hx20 := bt_at a0 a1
      replace p20 := eq_true p20
      replace q20 := eq_true q20
      obtain ⟨hcz21_0, hcz21_1, hcz21_2, hcz21_3⟩ := zc4 BK253
      obtain ⟨hfz21_0, hfz21_1, hfz21_2, hfz21_3⟩ := zf4 BK253
      go_wp2
      refine bodyPost_ret (results_ctt rfl _ _ gb253 56 #[.int .i64 1, .int .i64 0, .int .u64 (IntKind.u64.wrap ((IntKind.u64.wrap (bt a0 a1)) - 32)), .string (⟨#[]⟩ : ByteArray)] (0, 0) _ rfl (by refine bx ?_; refine blk_put (cs := #[.int .i64 1, .int .i64 0, .int .u64 (IntKind.u64.wrap ((IntKind.u64.wrap (bt a0 a1)) - 32)), .string (⟨#[]⟩ : ByteArray)]) ?_ 3 _ rfl; refine bx ?_; refine blk_put (cs := #[.int .i64 1, .int .i64 0, .int .u64 0, .string (⟨#[]⟩ : ByteArray)]) ?_ 2 _ rfl; refine bx ?_; refine blk_put (cs := #[.int .i64 1, .int .i64 0, .int .u64 0, .string (⟨#[]⟩ : ByteArray)]) ?_ 1 _ rfl; refine bx ?_; refine blk_put (cs := #[.int .i64 0, .int .i64 0, .int .u64 0, .string (⟨#[]⟩ : ByteArray)]) ?_ 0 _ rfl; refine bx ?_; exact BK253.out) Tryd.underlying56 rfl (by kernel_rfl)) rfl ?_
      exact ⟨eW, by repeat (first | (with_reducible first | exact HB.out | apply below_alloc | apply pw_below_drewN | apply below_drew1 | refine below_set ?_ GE253.out) | exact HB.out)⟩
     replace c17 := Bool.eq_false_iff.mpr c17
     subst c17
     have H1 : (if (bt a0 a1) = 48 then (if (wrap64 (a1 + 9)) > (a0.size : Int) then (some (0, 0, 0, (⟨#[]⟩ : ByteArray), 0, 7)) else (withyref03_Get.l0 kj14 a0 a1 0 1)) else (if (bt a0 a1) = 64 then ((withyref01_Get.f kj14 a0 (wrap64 (a1 + 1))).bind fun bt254 => (if bt254.2.2 = 0 then (some (3, 0, bt254.1, (⟨#[]⟩ : ByteArray), bt254.2.1, 0)) else (some (0, 0, 0, (⟨#[]⟩ : ByteArray), 0, bt254.2.2)))) else (if (bt a0 a1) = 80 then ((withyref03_text.f kj14 a0 (wrap64 (a1 + 1))).bind fun bt257 => (if bt257.2.2 = 0 then (some (4, 0, 0, bt257.1, bt257.2.1, 0)) else (some (0, 0, 0, (⟨#[]⟩ : ByteArray), 0, bt257.2.2)))) else (some (0, 0, 0, (⟨#[]⟩ : ByteArray), 0, 3))))) = some (r1, r2, r3, r4, r5, r6) := by rw [if_neg (show ¬ (false = true) by decide)] at H; exact H
     clear H
     have H := H1
     clear H1
     by_cases c22 : (bt a0 a1) = 48
     rotate_left
     ·rw [if_neg c22] at H
      have c22b0 : ((bt a0 a1) == 48) = false := beq_eq_false_iff_ne.mpr c22
      have c22b1 : ((bt a0 a1) != 48) = true := bne_iff_ne.mpr c22
      by_cases c31 : (bt a0 a1) = 64
      ·rw [if_pos c31] at H
       have c31b0 : ((bt a0 a1) == 64) = true := beq_iff_eq.mpr c31
       have c31b1 : ((bt a0 a1) != 64) = false := bne_eq_false_iff_eq.mpr c31
       clear c31
       replace H := bM H
       obtain ⟨⟨t254, t255, t256⟩, A320, H⟩ := H
       replace H : (if t256 = 0 then (some (3, 0, t254, (⟨#[]⟩ : ByteArray), t255, 0)) else (some (0, 0, 0, (⟨#[]⟩ : ByteArray), 0, t256))) = some (r1, r2, r3, r4, r5, r6) := H
       have A32 := Aside0.mk A320
       clear A320
       by_cases c33 : t256 = 0
       rotate_left
       ·rw [if_neg c33] at H
        have c33b0 : (t256 == 0) = false := beq_eq_false_iff_ne.mpr c33
        have c33b1 : (t256 != 0) = true := bne_iff_ne.mpr c33
        simp only [Option.some.injEq, Prod.mk.injEq] at H
        obtain ⟨rfl, rfl, rfl, rfl, rfl, rfl⟩ := H
        go_wp2_with (first | ((with_reducible refine gate_callee (f := 46) rfl ?_); refine goesL_ (some 81) rfl rfl Tryd.func46 (by kernel_rfl) rfl #[.string a0, .int .i64 (wrap64 (a1 + 1))] rfl aO ?_; (first | (with_reducible refine (withyref01_Get.calls kj14 a0 (wrap64 (a1 + 1)) t254 t255 t256 _ A32.out).mono ?_) | (with_reducible refine (withyref01_Get.calls kj14 a0 (a1 + 1) t254 t255 t256 _ (by have e_ := A32.out; rwa [(by unfold wrap64; omega : wrap64 (a1 + 1) = (a1 + 1))] at e_)).mono ?_)); rintro e w36 ⟨rfl, hb⟩; refine ⟨_, rfl, ?_⟩; replace BK253 := as_ (blk_below (g := gb253) (o := .cells #[.int .i64 0, .int .i64 0, .int .u64 0, .string (⟨#[]⟩ : ByteArray)] 56 (0, 0)) (bk BK253) hb); replace HB := as_ (below_step bA hb); (try clear hb); (try clear hb2); (try clear hk); (try clear hi); obtain ⟨hcz37_0, hcz37_1, hcz37_2, hcz37_3⟩ := zc4 BK253; obtain ⟨hfz37_0, hfz37_1, hfz37_2, hfz37_3⟩ := zf4 BK253))
        refine bodyPost_ret (results_ctt rfl _ _ gb253 56 #[.int .i64 0, .int .i64 0, .int .u64 0, .string (⟨#[]⟩ : ByteArray)] (0, 0) _ rfl (by refine bx ?_; refine blk_put (cs := #[.int .i64 0, .int .i64 0, .int .u64 0, .string (⟨#[]⟩ : ByteArray)]) ?_ 3 _ rfl; refine bx ?_; refine blk_put (cs := #[.int .i64 0, .int .i64 0, .int .u64 0, .string (⟨#[]⟩ : ByteArray)]) ?_ 2 _ rfl; refine bx ?_; refine blk_put (cs := #[.int .i64 0, .int .i64 0, .int .u64 0, .string (⟨#[]⟩ : ByteArray)]) ?_ 1 _ rfl; refine bx ?_; refine blk_put (cs := #[.int .i64 0, .int .i64 0, .int .u64 0, .string (⟨#[]⟩ : ByteArray)]) ?_ 0 _ rfl; refine bx ?_; exact BK253.out) Tryd.underlying56 rfl (by kernel_rfl)) rfl ?_
        exact ⟨eW, by repeat (first | (with_reducible first | exact HB.out | apply below_alloc | apply pw_below_drewN | apply below_drew1 | refine below_set ?_ GE253.out) | exact HB.out)⟩
       rw [if_pos c33] at H
       have c33b0 : (t256 == 0) = true := beq_iff_eq.mpr c33
       have c33b1 : (t256 != 0) = false := bne_eq_false_iff_eq.mpr c33
       clear c33
       simp only [Option.some.injEq, Prod.mk.injEq] at H
       obtain ⟨rfl, rfl, rfl, rfl, rfl, rfl⟩ := H
       go_wp2_with (first | ((with_reducible refine gate_callee (f := 46) rfl ?_); refine goesL_ (some 81) rfl rfl Tryd.func46 (by kernel_rfl) rfl #[.string a0, .int .i64 (wrap64 (a1 + 1))] rfl aO ?_; (first | (with_reducible refine (withyref01_Get.calls kj14 a0 (wrap64 (a1 + 1)) t254 t255 t256 _ A32.out).mono ?_) | (with_reducible refine (withyref01_Get.calls kj14 a0 (a1 + 1) t254 t255 t256 _ (by have e_ := A32.out; rwa [(by unfold wrap64; omega : wrap64 (a1 + 1) = (a1 + 1))] at e_)).mono ?_)); rintro e w34 ⟨rfl, hb⟩; refine ⟨_, rfl, ?_⟩; replace BK253 := as_ (blk_below (g := gb253) (o := .cells #[.int .i64 0, .int .i64 0, .int .u64 0, .string (⟨#[]⟩ : ByteArray)] 56 (0, 0)) (bk BK253) hb); replace HB := as_ (below_step bA hb); (try clear hb); (try clear hb2); (try clear hk); (try clear hi); obtain ⟨hcz35_0, hcz35_1, hcz35_2, hcz35_3⟩ := zc4 BK253; obtain ⟨hfz35_0, hfz35_1, hfz35_2, hfz35_3⟩ := zf4 BK253))
       refine bodyPost_ret (results_ctt rfl _ _ gb253 56 #[.int .i64 3, .int .i64 0, .int .u64 t254, .string (⟨#[]⟩ : ByteArray)] (0, 0) _ rfl (by refine bx ?_; refine blk_put (cs := #[.int .i64 3, .int .i64 0, .int .u64 t254, .string (⟨#[]⟩ : ByteArray)]) ?_ 3 _ rfl; refine bx ?_; refine blk_put (cs := #[.int .i64 3, .int .i64 0, .int .u64 0, .string (⟨#[]⟩ : ByteArray)]) ?_ 2 _ rfl; refine bx ?_; refine blk_put (cs := #[.int .i64 3, .int .i64 0, .int .u64 0, .string (⟨#[]⟩ : ByteArray)]) ?_ 1 _ rfl; refine bx ?_; refine blk_put (cs := #[.int .i64 0, .int .i64 0, .int .u64 0, .string (⟨#[]⟩ : ByteArray)]) ?_ 0 _ rfl; refine bx ?_; exact BK253.out) Tryd.underlying56 rfl (by kernel_rfl)) rfl ?_
       exact ⟨eW, by repeat (first | (with_reducible first | exact HB.out | apply below_alloc | apply pw_below_drewN | apply below_drew1 | refine below_set ?_ GE253.out) | exact HB.out)⟩
      rw [if_neg c31] at H
      have c31b0 : ((bt a0 a1) == 64) = false := beq_eq_false_iff_ne.mpr c31
      have c31b1 : ((bt a0 a1) != 64) = true := bne_iff_ne.mpr c31
      by_cases c38 : (bt a0 a1) = 80
      rotate_left
      ·rw [if_neg c38] at H
       have c38b0 : ((bt a0 a1) == 80) = false := beq_eq_false_iff_ne.mpr c38
       have c38b1 : ((bt a0 a1) != 80) = true := bne_iff_ne.mpr c38
       simp only [Option.some.injEq, Prod.mk.injEq] at H
       obtain ⟨rfl, rfl, rfl, rfl, rfl, rfl⟩ := H
       obtain ⟨hcz45_0, hcz45_1, hcz45_2, hcz45_3⟩ := zc4 BK253
       obtain ⟨hfz45_0, hfz45_1, hfz45_2, hfz45_3⟩ := zf4 BK253
       go_wp2
       refine bodyPost_ret (results_ctt rfl _ _ gb253 56 #[.int .i64 0, .int .i64 0, .int .u64 0, .string (⟨#[]⟩ : ByteArray)] (0, 0) _ rfl (by refine bx ?_; refine blk_put (cs := #[.int .i64 0, .int .i64 0, .int .u64 0, .string (⟨#[]⟩ : ByteArray)]) ?_ 3 _ rfl; refine bx ?_; refine blk_put (cs := #[.int .i64 0, .int .i64 0, .int .u64 0, .string (⟨#[]⟩ : ByteArray)]) ?_ 2 _ rfl; refine bx ?_; refine blk_put (cs := #[.int .i64 0, .int .i64 0, .int .u64 0, .string (⟨#[]⟩ : ByteArray)]) ?_ 1 _ rfl; refine bx ?_; refine blk_put (cs := #[.int .i64 0, .int .i64 0, .int .u64 0, .string (⟨#[]⟩ : ByteArray)]) ?_ 0 _ rfl; refine bx ?_; exact BK253.out) Tryd.underlying56 rfl (by kernel_rfl)) rfl ?_
       exact ⟨eW, by repeat (first | (with_reducible first | exact HB.out | apply below_alloc | apply pw_below_drewN | apply below_drew1 | refine below_set ?_ GE253.out) | exact HB.out)⟩
      rw [if_pos c38] at H
      have c38b0 : ((bt a0 a1) == 80) = true := beq_iff_eq.mpr c38
      have c38b1 : ((bt a0 a1) != 80) = false := bne_eq_false_iff_eq.mpr c38
      clear c38
      replace H := bM H
      obtain ⟨⟨t257, t258, t259⟩, A390, H⟩ := H
      replace H : (if t259 = 0 then (some (4, 0, 0, t257, t258, 0)) else (some (0, 0, 0, (⟨#[]⟩ : ByteArray), 0, t259))) = some (r1, r2, r3, r4, r5, r6) := H
      have A39 := Aside0.mk A390
      clear A390
      by_cases c40 : t259 = 0
      rotate_left
      ·rw [if_neg c40] at H
       have c40b0 : (t259 == 0) = false := beq_eq_false_iff_ne.mpr c40
       have c40b1 : (t259 != 0) = true := bne_iff_ne.mpr c40
       simp only [Option.some.injEq, Prod.mk.injEq] at H
       obtain ⟨rfl, rfl, rfl, rfl, rfl, rfl⟩ := H
       go_wp2_with (first | ((with_reducible refine gate_callee (f := 47) rfl ?_); refine goesL_ (some 98) rfl rfl Tryd.func47 (by kernel_rfl) rfl #[.string a0, .int .i64 (wrap64 (a1 + 1))] rfl aO ?_; (first | (with_reducible refine (withyref03_text.calls kj14 a0 (wrap64 (a1 + 1)) t257 t258 t259 _ A39.out).mono ?_) | (with_reducible refine (withyref03_text.calls kj14 a0 (a1 + 1) t257 t258 t259 _ (by have e_ := A39.out; rwa [(by unfold wrap64; omega : wrap64 (a1 + 1) = (a1 + 1))] at e_)).mono ?_)); rintro e w43 ⟨rfl, hb⟩; refine ⟨_, rfl, ?_⟩; replace BK253 := as_ (blk_below (g := gb253) (o := .cells #[.int .i64 0, .int .i64 0, .int .u64 0, .string (⟨#[]⟩ : ByteArray)] 56 (0, 0)) (bk BK253) hb); replace HB := as_ (below_step bA hb); (try clear hb); (try clear hb2); (try clear hk); (try clear hi); obtain ⟨hcz44_0, hcz44_1, hcz44_2, hcz44_3⟩ := zc4 BK253; obtain ⟨hfz44_0, hfz44_1, hfz44_2, hfz44_3⟩ := zf4 BK253))
       refine bodyPost_ret (results_ctt rfl _ _ gb253 56 #[.int .i64 0, .int .i64 0, .int .u64 0, .string (⟨#[]⟩ : ByteArray)] (0, 0) _ rfl (by refine bx ?_; refine blk_put (cs := #[.int .i64 0, .int .i64 0, .int .u64 0, .string (⟨#[]⟩ : ByteArray)]) ?_ 3 _ rfl; refine bx ?_; refine blk_put (cs := #[.int .i64 0, .int .i64 0, .int .u64 0, .string (⟨#[]⟩ : ByteArray)]) ?_ 2 _ rfl; refine bx ?_; refine blk_put (cs := #[.int .i64 0, .int .i64 0, .int .u64 0, .string (⟨#[]⟩ : ByteArray)]) ?_ 1 _ rfl; refine bx ?_; refine blk_put (cs := #[.int .i64 0, .int .i64 0, .int .u64 0, .string (⟨#[]⟩ : ByteArray)]) ?_ 0 _ rfl; refine bx ?_; exact BK253.out) Tryd.underlying56 rfl (by kernel_rfl)) rfl ?_
       exact ⟨eW, by repeat (first | (with_reducible first | exact HB.out | apply below_alloc | apply pw_below_drewN | apply below_drew1 | refine below_set ?_ GE253.out) | exact HB.out)⟩
      rw [if_pos c40] at H
      have c40b0 : (t259 == 0) = true := beq_iff_eq.mpr c40
      have c40b1 : (t259 != 0) = false := bne_eq_false_iff_eq.mpr c40
      clear c40
      simp only [Option.some.injEq, Prod.mk.injEq] at H
      obtain ⟨rfl, rfl, rfl, rfl, rfl, rfl⟩ := H
      go_wp2_with (first | ((with_reducible refine gate_callee (f := 47) rfl ?_); refine goesL_ (some 98) rfl rfl Tryd.func47 (by kernel_rfl) rfl #[.string a0, .int .i64 (wrap64 (a1 + 1))] rfl aO ?_; (first | (with_reducible refine (withyref03_text.calls kj14 a0 (wrap64 (a1 + 1)) t257 t258 t259 _ A39.out).mono ?_) | (with_reducible refine (withyref03_text.calls kj14 a0 (a1 + 1) t257 t258 t259 _ (by have e_ := A39.out; rwa [(by unfold wrap64; omega : wrap64 (a1 + 1) = (a1 + 1))] at e_)).mono ?_)); rintro e w41 ⟨rfl, hb⟩; refine ⟨_, rfl, ?_⟩; replace BK253 := as_ (blk_below (g := gb253) (o := .cells #[.int .i64 0, .int .i64 0, .int .u64 0, .string (⟨#[]⟩ : ByteArray)] 56 (0, 0)) (bk BK253) hb); replace HB := as_ (below_step bA hb); (try clear hb); (try clear hb2); (try clear hk); (try clear hi); obtain ⟨hcz42_0, hcz42_1, hcz42_2, hcz42_3⟩ := zc4 BK253; obtain ⟨hfz42_0, hfz42_1, hfz42_2, hfz42_3⟩ := zf4 BK253))
      refine bodyPost_ret (results_ctt rfl _ _ gb253 56 #[.int .i64 4, .int .i64 0, .int .u64 0, .string t257] (0, 0) _ rfl (by refine bx ?_; refine blk_put (cs := #[.int .i64 4, .int .i64 0, .int .u64 0, .string (⟨#[]⟩ : ByteArray)]) ?_ 3 _ rfl; refine bx ?_; refine blk_put (cs := #[.int .i64 4, .int .i64 0, .int .u64 0, .string (⟨#[]⟩ : ByteArray)]) ?_ 2 _ rfl; refine bx ?_; refine blk_put (cs := #[.int .i64 4, .int .i64 0, .int .u64 0, .string (⟨#[]⟩ : ByteArray)]) ?_ 1 _ rfl; refine bx ?_; refine blk_put (cs := #[.int .i64 0, .int .i64 0, .int .u64 0, .string (⟨#[]⟩ : ByteArray)]) ?_ 0 _ rfl; refine bx ?_; exact BK253.out) Tryd.underlying56 rfl (by kernel_rfl)) rfl ?_
      exact ⟨eW, by repeat (first | (with_reducible first | exact HB.out | apply below_alloc | apply pw_below_drewN | apply below_drew1 | refine below_set ?_ GE253.out) | exact HB.out)⟩
     rw [if_pos c22] at H
     have c22b0 : ((bt a0 a1) == 48) = true := beq_iff_eq.mpr c22
     have c22b1 : ((bt a0 a1) != 48) = false := bne_eq_false_iff_eq.mpr c22
     clear c22
     by_cases c23 : (wrap64 (a1 + 9)) > (a0.size : Int)
     ·rw [if_pos c23] at H
      have c23b0 : decide ((a0.size : Int) < (wrap64 (a1 + 9))) = true := decide_eq_true c23
      clear c23
      simp only [Option.some.injEq, Prod.mk.injEq] at H
      obtain ⟨rfl, rfl, rfl, rfl, rfl, rfl⟩ := H
      obtain ⟨hcz24_0, hcz24_1, hcz24_2, hcz24_3⟩ := zc4 BK253
      obtain ⟨hfz24_0, hfz24_1, hfz24_2, hfz24_3⟩ := zf4 BK253
      go_wp2
      refine bodyPost_ret (results_ctt rfl _ _ gb253 56 #[.int .i64 0, .int .i64 0, .int .u64 0, .string (⟨#[]⟩ : ByteArray)] (0, 0) _ rfl (by refine bx ?_; refine blk_put (cs := #[.int .i64 0, .int .i64 0, .int .u64 0, .string (⟨#[]⟩ : ByteArray)]) ?_ 3 _ rfl; refine bx ?_; refine blk_put (cs := #[.int .i64 0, .int .i64 0, .int .u64 0, .string (⟨#[]⟩ : ByteArray)]) ?_ 2 _ rfl; refine bx ?_; refine blk_put (cs := #[.int .i64 0, .int .i64 0, .int .u64 0, .string (⟨#[]⟩ : ByteArray)]) ?_ 1 _ rfl; refine bx ?_; refine blk_put (cs := #[.int .i64 0, .int .i64 0, .int .u64 0, .string (⟨#[]⟩ : ByteArray)]) ?_ 0 _ rfl; refine bx ?_; exact BK253.out) Tryd.underlying56 rfl (by kernel_rfl)) rfl ?_
      exact ⟨eW, by repeat (first | (with_reducible first | exact HB.out | apply below_alloc | apply pw_below_drewN | apply below_drew1 | refine below_set ?_ GE253.out) | exact HB.out)⟩
     rw [if_neg c23] at H
     have c23b0 : decide ((a0.size : Int) < (wrap64 (a1 + 9))) = false := decide_eq_false c23
     clear c23
     have H' := Aside0.mk H
     clear H
     go_wp2
     go_loopg [7, 8] kj14 (fun kq v7 v8 w' => ∃ (x7_3 : Int) (x8_3 : Int), v7 = .int .u64 x7_3 ∧ v8 = .int .i64 x8_3 ∧ Aside0 (withyref03_Get.l0 kq a0 a1 x7_3 x8_3 = some (r1, r2, r3, r4, r5, r6)) ∧ Aside0 (kq ≤ kj14) ∧ Aside0 (w'.heap[gb253]? = some (.cells #[.int .i64 0, .int .i64 0, .int .u64 0, .string (⟨#[]⟩ : ByteArray)] 56 (0, 0))) ∧ Aside0 (Below w.heap.size w w'))
     case atStart => exact ⟨(0), (1), (by first | rfl | (simp; done) | (simp [*]; done)), (by first | rfl | (simp; done) | (simp [*]; done)), H', ⟨Nat.le_refl _⟩, ⟨by refine bx ?_; exact BK253.out⟩, ⟨by repeat (first | (with_reducible first | exact HB.out | apply below_alloc | apply pw_below_drewN | apply below_drew1 | refine below_set ?_ GE253.out) | exact HB.out)⟩⟩
     case round =>
      clear H'
      try clear c1
      try clear p1
      try clear q1
      try clear hx1
      try clear c2
      try clear p2
      try clear q2
      try clear hx2
      try clear c5
      try clear c5b0
      try clear c5b1
      try clear c6
      try clear p6
      try clear c8
      try clear c8b0
      try clear c8b1
      try clear c10
      try clear c10b0
      try clear c11
      try clear c11b0
      try clear p12
      try clear q12
      try clear hx12
      try clear c13
      try clear c13b0
      try clear c13b1
      try clear c16
      try clear c16b0
      try clear c16b1
      try clear c17
      try clear c18
      try clear c18b0
      try clear c19
      try clear c19b0
      try clear p20
      try clear q20
      try clear hx20
      try clear c22
      try clear c22b0
      try clear c22b1
      try clear c23
      try clear c23b0
      try clear hcz14_0
      try clear hcz14_1
      try clear hcz14_2
      try clear hcz14_3
      try clear hcz21_0
      try clear hcz21_1
      try clear hcz21_2
      try clear hcz21_3
      try clear hcz24_0
      try clear hcz24_1
      try clear hcz24_2
      try clear hcz24_3
      try clear hcz7_0
      try clear hcz7_1
      try clear hcz7_2
      try clear hcz7_3
      try clear hcz9_0
      try clear hcz9_1
      try clear hcz9_2
      try clear hcz9_3
      try clear hfz14_0
      try clear hfz14_1
      try clear hfz14_2
      try clear hfz14_3
      try clear hfz21_0
      try clear hfz21_1
      try clear hfz21_2
      try clear hfz21_3
      try clear hfz24_0
      try clear hfz24_1
      try clear hfz24_2
      try clear hfz24_3
      try clear hfz7_0
      try clear hfz7_1
      try clear hfz7_2
      try clear hfz7_3
      try clear hfz9_0
      try clear hfz9_1
      try clear hfz9_2
      try clear hfz9_3
      try clear p1
      try clear p12
      try clear p2
      try clear p20
      try clear p6
      try clear q1
      try clear q12
      try clear q20
      obtain ⟨x7_3, x8_3, rfl, rfl, HA, HK3, BK253, HB⟩ := hrel
      cases gk with
      | zero => exact absurd HA.out (by simp [withyref03_Get.l0])
      | succ k3 =>
       have H := HA.out
       clear HA
       simp only [withyref03_Get.l0] at H
       by_cases c25 : x8_3 < 9
       rotate_left
       ·rw [if_neg c25] at H
        have c25b0 : decide (x8_3 < 9) = false := decide_eq_false c25
        clear c25
        simp only [Option.some.injEq, Prod.mk.injEq] at H
        obtain ⟨rfl, rfl, rfl, rfl, rfl, rfl⟩ := H
        obtain ⟨hcz30_0, hcz30_1, hcz30_2, hcz30_3⟩ := zc4 BK253
        obtain ⟨hfz30_0, hfz30_1, hfz30_2, hfz30_3⟩ := zf4 BK253
        go_wp2
        refine bodyPost_ret (results_ctt rfl _ _ gb253 56 #[.int .i64 2, .int .i64 (wrap64 (IntKind.u64.wrap (x7_3 - 9223372036854775808))), .int .u64 0, .string (⟨#[]⟩ : ByteArray)] (0, 0) _ rfl (by refine bx ?_; refine blk_put (cs := #[.int .i64 2, .int .i64 (wrap64 (IntKind.u64.wrap (x7_3 - 9223372036854775808))), .int .u64 0, .string (⟨#[]⟩ : ByteArray)]) ?_ 3 _ rfl; refine bx ?_; refine blk_put (cs := #[.int .i64 2, .int .i64 (wrap64 (IntKind.u64.wrap (x7_3 - 9223372036854775808))), .int .u64 0, .string (⟨#[]⟩ : ByteArray)]) ?_ 2 _ rfl; refine bx ?_; refine blk_put (cs := #[.int .i64 2, .int .i64 0, .int .u64 0, .string (⟨#[]⟩ : ByteArray)]) ?_ 1 _ rfl; refine bx ?_; refine blk_put (cs := #[.int .i64 0, .int .i64 0, .int .u64 0, .string (⟨#[]⟩ : ByteArray)]) ?_ 0 _ rfl; refine bx ?_; exact BK253.out) Tryd.underlying56 rfl (by kernel_rfl)) rfl ?_
        exact ⟨eW, by repeat (first | (with_reducible first | exact HB.out | apply below_alloc | apply pw_below_drewN | apply below_drew1 | refine below_set ?_ GE253.out) | exact HB.out)⟩
       rw [if_pos c25] at H
       have c25b0 : decide (x8_3 < 9) = true := decide_eq_true c25
       clear c25
       obtain ⟨ji26, hji26⟩ : ∃ j_ : Int, (wrap64 (a1 + x8_3)) = j_ := ⟨_, rfl⟩
       replace H : (if 0 ≤ (ji26) then (if (ji26) < (a0.size : Int) then (withyref03_Get.l0 k3 a0 a1 (IntKind.u64.wrap ((IntKind.u64.wrap (x7_3 * 256)) + (IntKind.u64.wrap (bt a0 (ji26))))) (wrap64 (x8_3 + 1))) else (none)) else (none)) = some (r1, r2, r3, r4, r5, r6) := by first | (rw [hji26] at H; exact H) | (simp only [hji26] at H ⊢; exact H)
       have hji26w : (IntKind.i64.wrap (a1 + x8_3)) = ji26 := (i64_w _).trans hji26
       by_cases c27 : 0 ≤ (ji26)
       rotate_left
       ·rw [if_neg c27] at H
        exact absurd H (by simp)
       rw [if_pos c27] at H
       have c27b0 : decide (0 ≤ (ji26)) = true := decide_eq_true c27
       clear c27
       by_cases c28 : (ji26) < (a0.size : Int)
       rotate_left
       ·rw [if_neg c28] at H
        exact absurd H (by simp)
       rw [if_pos c28] at H
       have c28b0 : decide ((ji26) < (a0.size : Int)) = true := decide_eq_true c28
       clear c28
       have H' := Aside0.mk H
       clear H
       have p29 : 0 ≤ ((ji26) : Int) := of_decide_eq_true aM
       have q29 : (ji26) < (a0.size : Int) := of_decide_eq_true aM
       have hx29 := bt_at a0 (ji26)
       replace p29 := eq_true p29
       replace q29 := eq_true q29
       go_wp2
       go_roundg k3
       case measure => have := HJ2.out; have := HJ14.out; have := HK3.out; omega
       case rel => exact ⟨(IntKind.u64.wrap ((IntKind.u64.wrap (x7_3 * 256)) + (IntKind.u64.wrap (bt a0 (ji26))))), (wrap64 (x8_3 + 1)), (by first | rfl | (simp; done) | (simp only [← hji26] <;> (first | rfl | simp)) | (simp [*]; done)), (by first | rfl | (simp; done) | (simp [*]; done)), H', ⟨by have := HJ2.out; have := HJ14.out; have := HK3.out; omega⟩, ⟨by refine bx ?_; exact BK253.out⟩, ⟨by repeat (first | (with_reducible first | exact HB.out | apply below_alloc | apply pw_below_drewN | apply below_drew1 | refine below_set ?_ GE253.out) | exact HB.out)⟩⟩
/-! ### withyref04_Get: function 14 -/
mutual
def withyref04_Get.l0 : Nat → ByteArray → List (S56) → Int → Option ((List (S56)) × Int)
 | 0, _, _, _ => none
 | k + 1, x0, x4, x5 => if x5 = (x0.size : Int) then (some (([] : List (S56)), 7)) else (if 0 ≤ x5 then (if x5 < (x0.size : Int) then (if (bt x0 x5) = 1 then (withyref04_Get.j1 k x0 x4 x5 (x5 == (wrap64 ((x0.size : Int) - 1)))) else (withyref04_Get.j1 k x0 x4 x5 false)) else (none)) else (none))
def withyref04_Get.j1 : Nat → ByteArray → List (S56) → Int → Bool → Option ((List (S56)) × Int)
 | 0, _, _, _, _ => none
 | k + 1, x0, x4, x5, x24 => if x24 = true then (some (x4, 0)) else (if 0 ≤ x5 then (if x5 < (x0.size : Int) then (if (bt x0 x5) = 1 then (some (([] : List (S56)), 3)) else ((withyref03_Get.f k x0 x5).bind fun bt263 => (if bt263.2.2.2.2.2 = 0 then (if x4.length < 3518437208883 then (withyref04_Get.l0 k x0 (x4 ++ [(⟨bt263.1, bt263.2.1, bt263.2.2.1, bt263.2.2.2.1⟩ : S56)]) bt263.2.2.2.2.1) else (none)) else (some (([] : List (S56)), bt263.2.2.2.2.2))))) else (none)) else (none))
end
def withyref04_Get.f (k : Nat) (a0 : ByteArray) : Option ((List (S56)) × Int) := withyref04_Get.l0 k a0 (([] : List (S56))) 0
theorem withyref04_Get.mono_l : ∀ k, (∀ y0 y1 y2, LeO (withyref04_Get.l0 k y0 y1 y2) (withyref04_Get.l0 (k + 1) y0 y1 y2)) ∧ (∀ y0 y1 y2 y3, LeO (withyref04_Get.j1 k y0 y1 y2 y3) (withyref04_Get.j1 (k + 1) y0 y1 y2 y3))
 | 0 => ⟨fun _ _ _ r h => by simp [withyref04_Get.l0] at h, fun _ _ _ _ r h => by simp [withyref04_Get.j1] at h⟩
 | k + 1 => by
  obtain ⟨ih0, ih1⟩ := withyref04_Get.mono_l k
  refine ⟨?_, ?_⟩
  ·intro y0 y1 y2
   unfold withyref04_Get.l0
   repeat' first
   | (with_reducible exact ih0 _ _ _)
   | (with_reducible exact ih1 _ _ _ _)
   | (with_reducible exact withyref03_Get.mono _ _ _)
   | (with_reducible exact LeO.refl _)
   | (with_reducible exact LeO.none _)
   | (with_reducible refine LeO.ite ?_ ?_)
   | (with_reducible refine LeO.bind ?_ (fun _ => ?_))
   | exact ih0 _ _ _
   | exact ih1 _ _ _ _
   | exact withyref03_Get.mono _ _ _
   | exact LeO.none _
   | refine LeO.ite ?_ ?_
   | refine LeO.bind ?_ (fun _ => ?_)
  ·intro y0 y1 y2 y3
   unfold withyref04_Get.j1
   repeat' first
   | (with_reducible exact ih0 _ _ _)
   | (with_reducible exact ih1 _ _ _ _)
   | (with_reducible exact withyref03_Get.mono _ _ _)
   | (with_reducible exact LeO.refl _)
   | (with_reducible exact LeO.none _)
   | (with_reducible refine LeO.ite ?_ ?_)
   | (with_reducible refine LeO.bind ?_ (fun _ => ?_))
   | exact ih0 _ _ _
   | exact ih1 _ _ _ _
   | exact withyref03_Get.mono _ _ _
   | exact LeO.none _
   | refine LeO.ite ?_ ?_
   | refine LeO.bind ?_ (fun _ => ?_)
theorem withyref04_Get.mono : ∀ a0 k, LeO (withyref04_Get.f k a0) (withyref04_Get.f (k + 1) a0) := by
 intro a0 k
 obtain ⟨ih0, ih1⟩ := withyref04_Get.mono_l k
 unfold withyref04_Get.f
 repeat' first
   | (with_reducible exact ih0 _ _ _)
   | (with_reducible exact ih1 _ _ _ _)
   | (with_reducible exact withyref03_Get.mono _ _ _)
   | (with_reducible exact LeO.refl _)
   | (with_reducible exact LeO.none _)
   | (with_reducible refine LeO.ite ?_ ?_)
   | (with_reducible refine LeO.bind ?_ (fun _ => ?_))
   | exact ih0 _ _ _
   | exact ih1 _ _ _ _
   | exact withyref03_Get.mono _ _ _
   | exact LeO.none _
   | refine LeO.ite ?_ ?_
   | refine LeO.bind ?_ (fun _ => ?_)
set_option maxHeartbeats 8000000 in
set_option maxRecDepth 100000 in
theorem withyref04_Get.calls (k : Nat) (a0 : ByteArray) (r1 : List (S56)) (r2 : Int) (w : World) (h : withyref04_Get.f k a0 = some (r1, r2)) :
  Calls Tryd.prog 14 #[.string a0] w fun e w' => ∃ v0_ : Value, e = .returned (.tuple #[v0_, .int .i64 r2]) ∧ Kd.R k56 56 w' w.heap.size (fun _ => True) v0_ r1 ∧ Below w.heap.size w w' := by
 have hu56 := Tryd.underlying56
 have HB := as_ (Below.refl w.heap.size w)
 have H : (withyref04_Get.l0 k a0 (([] : List (S56))) 0) = some (r1, r2) := h
 clear h
 obtain ⟨y260, hy260⟩ : ∃ y_ : List (S56), y_ = (([] : List (S56))) := ⟨_, rfl⟩
 replace H : (withyref04_Get.l0 k a0 y260 0) = some (r1, r2) := by first | (rw [hy260]; with_reducible exact H) | (have H2_ := (Option.bind_some _ _).symm.trans H; rw [hy260]; with_reducible exact H2_) | (have H2_ := (Option.bind_some _ _).symm.trans H; with_reducible exact H2_) | with_reducible exact H | (rw [hy260]; exact H) | exact H
 have Ny260 := Aside0.mk hy260
 clear hy260
 have H' := Aside0.mk H
 clear H
 go_enter Tryd.func14, Tryd.ntmps14
 go_wp2_with (first | ((with_reducible refine gate_dst (N := 9) rfl ?_); (try (refine gate_guard (by rfl) ?_; dsimp only)); refine Kd.R_lit k56 _ 56 ?hg (N := 9) ?hd (xs := ([] : List (S56))) (inner := []) (ok := fun _ => True) (okp := fun _ => True) ?hr ?hp (fun _ hk => hk) trivial (Below.refl _ _) (Nat.le_refl _) (by simp) ?_; (case hd => rfl); (case hg => rfl); (case hr => first | (go_simp; done) | (go_simp; rfl)); (case hp => exact (Reps.none _ _)); intro v261 w2 ho3 hb hg_ hnew_; clear hg_ hnew_; (first | rw [← Ny260.out] at ho3 | (simp only [Int.reduceToNat] at ho3; rw [← Ny260.out] at ho3)); have HO262 := as_ (Kd.R_lower ho3 (below_size bA)); replace HB := as_ (below_step bA hb); clear hb ho3))
 go_loopg [4, 5] k (fun kq v4 v5 w' => ∃ (x4_1 : List (S56)) (x5_1 : Int), v5 = .int .i64 x5_1 ∧ Aside0 (withyref04_Get.l0 kq a0 x4_1 x5_1 = some (r1, r2)) ∧ Aside0 (kq ≤ k) ∧ Aside0 (Kd.R k56 56 w' w.heap.size (fun _ => True) v4 x4_1) ∧ Aside0 (Below w.heap.size w w'))
 case atStart => exact ⟨(y260), (0), (by first | rfl | (simp; done) | (simp [*]; done)), H', ⟨Nat.le_refl _⟩, ⟨by (with_reducible repeat (first | apply Kd.R_alloc | apply Kd.R_drewN | apply Kd.R_drew)); exact HO262.out⟩, ⟨by repeat (first | (with_reducible first | exact HB.out | apply below_alloc | apply pw_below_drewN | apply below_drew1) | exact HB.out)⟩⟩
 case round =>
  clear H'
  try clear c1
  try clear p2
  obtain ⟨x4_1, x5_1, rfl, HA, HK1, HO_4, HB⟩ := hrel
  cases gk with
  | zero => exact absurd HA.out (by simp [withyref04_Get.l0])
  | succ k1 =>
   have H := HA.out
   clear HA
   simp only [withyref04_Get.l0] at H
   by_cases c4 : x5_1 = (a0.size : Int)
   ·rw [if_pos c4] at H
    have c4b0 : (x5_1 == (a0.size : Int)) = true := beq_iff_eq.mpr c4
    have c4b1 : (x5_1 != (a0.size : Int)) = false := bne_eq_false_iff_eq.mpr c4
    clear c4
    simp only [Option.some.injEq, Prod.mk.injEq] at H
    obtain ⟨rfl, rfl⟩ := H
    go_wp2
    go_ret2
    exact ⟨_, eW, by first | exact Kd.R_nil _ _ _ _ _ | exact Kd.N_nil _ _ _ _ _ | exact Kd.V_nil _ _ _ _ _ | exact Kd.Q_nil _ _ _ _ _ | exact Kd.S_nil _ _ _ _ _, by repeat (first | (with_reducible first | exact HB.out | apply below_alloc | apply pw_below_drewN | apply below_drew1) | exact HB.out)⟩
   rw [if_neg c4] at H
   have c4b0 : (x5_1 == (a0.size : Int)) = false := beq_eq_false_iff_ne.mpr c4
   have c4b1 : (x5_1 != (a0.size : Int)) = true := bne_iff_ne.mpr c4
   have HC5 := Aside0.mk H
   clear H
   go_upto_region 4 with (fail)
   go_cut [24] (fun v24 wc => ∃ (kq : Nat) (x24_4 : Bool), v24 = .bool x24_4 ∧ Aside0 (withyref04_Get.j1 kq a0 x4_1 x5_1 x24_4 = some (r1, r2)) ∧ Aside0 (kq ≤ k1) ∧ Aside0 (Kd.R k56 56 wc w.heap.size (fun _ => True) u4 x4_1) ∧ Aside0 (Below w.heap.size w wc))
   case first =>
    have H := HC5.out
    clear HC5
    by_cases c6 : 0 ≤ x5_1
    rotate_left
    ·rw [if_neg c6] at H
     exact absurd H (by simp)
    rw [if_pos c6] at H
    have c6b0 : decide (0 ≤ x5_1) = true := decide_eq_true c6
    clear c6
    (first | rw [c6b0] | (simp only [i64_w, i32_w]; rw [c6b0]) | rw [c6b1] | skip)
    by_cases c7 : x5_1 < (a0.size : Int)
    rotate_left
    ·rw [if_neg c7] at H
     exact absurd H (by simp)
    rw [if_pos c7] at H
    have c7b0 : decide (x5_1 < (a0.size : Int)) = true := decide_eq_true c7
    clear c7
    by_cases c9 : (bt a0 x5_1) = 1
    rotate_left
    ·rw [if_neg c9] at H
     have c9b0 : ((bt a0 x5_1) == 1) = false := beq_eq_false_iff_ne.mpr c9
     have c9b1 : ((bt a0 x5_1) != 1) = true := bne_iff_ne.mpr c9
     have H' := Aside0.mk H
     clear H
     have p8 : 0 ≤ (x5_1 : Int) := of_decide_eq_true aM
     have q8 : x5_1 < (a0.size : Int) := of_decide_eq_true aM
     have hx8 := bt_at a0 x5_1
     replace p8 := eq_true p8
     replace q8 := eq_true q8
     go_wp2
     go_meet
     case rel => exact ⟨_, (false), (by first | rfl | (simp; done) | (simp [*]; done)), H', ⟨by have := HK1.out; first | omega | exact Nat.le_refl _⟩, ⟨by (with_reducible repeat (first | apply Kd.R_alloc | apply Kd.R_drewN | apply Kd.R_drew)); exact HO_4.out⟩, ⟨by repeat (first | (with_reducible first | exact HB.out | apply below_alloc | apply pw_below_drewN | apply below_drew1) | exact HB.out)⟩⟩
    rw [if_pos c9] at H
    have c9b0 : ((bt a0 x5_1) == 1) = true := beq_iff_eq.mpr c9
    have c9b1 : ((bt a0 x5_1) != 1) = false := bne_eq_false_iff_eq.mpr c9
    clear c9
    have H' := Aside0.mk H
    clear H
    have p8 : 0 ≤ (x5_1 : Int) := of_decide_eq_true aM
    have q8 : x5_1 < (a0.size : Int) := of_decide_eq_true aM
    have hx8 := bt_at a0 x5_1
    replace p8 := eq_true p8
    replace q8 := eq_true q8
    go_wp2
    go_meet
    case rel => exact ⟨_, ((x5_1 == (wrap64 ((a0.size : Int) - 1)))), (by first | rfl | (simp; done) | (simp [*]; done)), H', ⟨by have := HK1.out; first | omega | exact Nat.le_refl _⟩, ⟨by (with_reducible repeat (first | apply Kd.R_alloc | apply Kd.R_drewN | apply Kd.R_drew)); exact HO_4.out⟩, ⟨by repeat (first | (with_reducible first | exact HB.out | apply below_alloc | apply pw_below_drewN | apply below_drew1) | exact HB.out)⟩⟩
   case rest =>
    clear HC5
    try clear c1
    try clear p2
    try clear c4
    try clear c4b0
    try clear c4b1
    try clear c6
    try clear c6b0
    try clear c6b1
    try clear p6
    try clear c7
    try clear c7b0
    try clear p8
    try clear q8
    try clear hx8
    try clear c9
    try clear c9b0
    try clear c9b1
    try clear p2
    try clear p8
    try clear q8
    obtain ⟨kq, x24_4, rfl, HA, HJ4, HO_4, HB⟩ := hcut
    cases kq with
    | zero => exact absurd HA.out (by simp [withyref04_Get.j1])
    | succ kj4 =>
     have H := HA.out
     clear HA
     simp only [withyref04_Get.j1] at H
     by_cases c10 : x24_4 = true
     ·subst c10
      have H1 : (some (x4_1, 0)) = some (r1, r2) := by rw [if_pos rfl] at H; exact H
      clear H
      have H := H1
      clear H1
      simp only [Option.some.injEq, Prod.mk.injEq] at H
      obtain ⟨rfl, rfl⟩ := H
      go_wp2
      go_ret2
      exact ⟨_, eW, by (with_reducible repeat (first | apply Kd.R_alloc | apply Kd.R_drewN | apply Kd.R_drew)); exact HO_4.out, by repeat (first | (with_reducible first | exact HB.out | apply below_alloc | apply pw_below_drewN | apply below_drew1) | exact HB.out)⟩
     replace c10 := Bool.eq_false_iff.mpr c10
     subst c10
     have H1 : (if 0 ≤ x5_1 then (if x5_1 < (a0.size : Int) then (if (bt a0 x5_1) = 1 then (some (([] : List (S56)), 3)) else ((withyref03_Get.f kj4 a0 x5_1).bind fun bt263 => (if bt263.2.2.2.2.2 = 0 then (if x4_1.length < 3518437208883 then (withyref04_Get.l0 kj4 a0 (x4_1 ++ [(⟨bt263.1, bt263.2.1, bt263.2.2.1, bt263.2.2.2.1⟩ : S56)]) bt263.2.2.2.2.1) else (none)) else (some (([] : List (S56)), bt263.2.2.2.2.2))))) else (none)) else (none)) = some (r1, r2) := by rw [if_neg (show ¬ (false = true) by decide)] at H; exact H
     clear H
     have H := H1
     clear H1
     by_cases c11 : 0 ≤ x5_1
     rotate_left
     ·rw [if_neg c11] at H
      exact absurd H (by simp)
 
     rw [if_pos c11] at H
     have c11b0 : decide (0 ≤ x5_1) = true := decide_eq_true c11
     clear c11
     by_cases c12 : x5_1 < (a0.size : Int)
     rotate_left
     ·rw [if_neg c12] at H
      exact absurd H (by simp)
     rw [if_pos c12] at H
     have c12b0 : decide (x5_1 < (a0.size : Int)) = true := decide_eq_true c12
     clear c12
     by_cases c14 : (bt a0 x5_1) = 1
     ·rw [if_pos c14] at H
      have c14b0 : ((bt a0 x5_1) == 1) = true := beq_iff_eq.mpr c14
      have c14b1 : ((bt a0 x5_1) != 1) = false := bne_eq_false_iff_eq.mpr c14
      clear c14
      simp only [Option.some.injEq, Prod.mk.injEq] at H
      obtain ⟨rfl, rfl⟩ := H
      have p13 : 0 ≤ (x5_1 : Int) := of_decide_eq_true aM
      have q13 : x5_1 < (a0.size : Int) := of_decide_eq_true aM
      have hx13 := bt_at a0 x5_1
      replace p13 := eq_true p13
      replace q13 := eq_true q13
      go_wp2
      go_ret2
      exact ⟨_, eW, by first | exact Kd.R_nil _ _ _ _ _ | exact Kd.N_nil _ _ _ _ _ | exact Kd.V_nil _ _ _ _ _ | exact Kd.Q_nil _ _ _ _ _ | exact Kd.S_nil _ _ _ _ _, by repeat (first | (with_reducible first | exact HB.out | apply below_alloc | apply pw_below_drewN | apply below_drew1) | exact HB.out)⟩
     rw [if_neg c14] at H
     have c14b0 : ((bt a0 x5_1) == 1) = false := beq_eq_false_iff_ne.mpr c14
     have c14b1 : ((bt a0 x5_1) != 1) = true := bne_iff_ne.mpr c14
     replace H := bM H
     obtain ⟨⟨t263, t264, t265, t266, t267, t268⟩, A150, H⟩ := H
     replace H : (if t268 = 0 then (if x4_1.length < 3518437208883 then (withyref04_Get.l0 kj4 a0 (x4_1 ++ [(⟨t263, t264, t265, t266⟩ : S56)]) t267) else (none)) else (some (([] : List (S56)), t268))) = some (r1, r2) := H
     have A15 := Aside0.mk A150
     clear A150
     by_cases c16 : t268 = 0
     rotate_left
     ·rw [if_neg c16] at H
      have c16b0 : (t268 == 0) = false := beq_eq_false_iff_ne.mpr c16
      have c16b1 : (t268 != 0) = true := bne_iff_ne.mpr c16
      simp only [Option.some.injEq, Prod.mk.injEq] at H
      obtain ⟨rfl, rfl⟩ := H
      have p13 : 0 ≤ (x5_1 : Int) := of_decide_eq_true aM
      have q13 : x5_1 < (a0.size : Int) := of_decide_eq_true aM
      have hx13 := bt_at a0 x5_1
      replace p13 := eq_true p13
      replace q13 := eq_true q13
      go_wp2_with (first | ((with_reducible refine gate_callee (f := 27) rfl ?_); refine goesL_ (some 33) rfl rfl Tryd.func27 (by kernel_rfl) rfl #[.string a0, .int .i64 x5_1] rfl aO ?_; (with_reducible refine (withyref03_Get.calls kj4 a0 x5_1 t263 t264 t265 t266 t267 t268 _ A15.out).mono ?_); rintro e w22 ⟨rfl, hb⟩; refine ⟨_, rfl, ?_⟩; replace HO_4 := as_ (Kd.R_below (by (with_reducible repeat (first | apply Kd.R_alloc | apply Kd.R_drewN | apply Kd.R_drew)); exact HO_4.out) hb); replace HB := as_ (below_step bA hb); (try clear hb); (try clear hb2); (try clear hk); (try clear hi)) | ((with_reducible refine gate_dst (N := 6) rfl ?_); (try (refine gate_guard (by rfl) ?_; dsimp only)); refine box_event ?hg (N := 6) ?hd (cs := #[.int .i64 0, .int .i64 0, .int .u64 0, .string (⟨#[]⟩ : ByteArray)]) (t := 56) ?hr ?_; (case hd => rfl); (case hg => rfl); (case hr => first | (go_simp; done) | (go_simp; rfl)); intro gb269 hg w23 hbox hb; have BK269 := as_ (hbox); have GW269 := gw hg bA; have GE269 := gw hg bA; replace HO_4 := as_ (Kd.R_below (Kd.R_elderB (by (with_reducible repeat (first | apply Kd.R_alloc | apply Kd.R_drewN | apply Kd.R_drew)); exact HO_4.out) gb269 (Nat.le_of_eq hg.symm)) hb); replace HB := as_ (below_step bA hb); clear hb hbox hg; obtain ⟨hcz24_0, hcz24_1, hcz24_2, hcz24_3⟩ := zc4 BK269; obtain ⟨hfz24_0, hfz24_1, hfz24_2, hfz24_3⟩ := zf4 BK269))
      go_ret2
      exact ⟨_, eW, by first | exact Kd.R_nil _ _ _ _ _ | exact Kd.N_nil _ _ _ _ _ | exact Kd.V_nil _ _ _ _ _ | exact Kd.Q_nil _ _ _ _ _ | exact Kd.S_nil _ _ _ _ _, by repeat (first | (with_reducible first | exact HB.out | apply below_alloc | apply pw_below_drewN | apply below_drew1 | refine below_set ?_ GE269.out) | exact HB.out)⟩
     rw [if_pos c16] at H
     have c16b0 : (t268 == 0) = true := beq_iff_eq.mpr c16
     have c16b1 : (t268 != 0) = false := bne_eq_false_iff_eq.mpr c16
     clear c16
     by_cases c17 : x4_1.length < 3518437208883
     rotate_left
     ·rw [if_neg c17] at H
      exact absurd H (by simp)
     rw [if_pos c17] at H
     have LMc17 := Aside0.mk c17
     clear c17
     obtain ⟨y270, hy270⟩ : ∃ y_ : List (S56), y_ = (x4_1 ++ [(⟨t263, t264, t265, t266⟩ : S56)]) := ⟨_, rfl⟩
     replace H : (withyref04_Get.l0 kj4 a0 y270 t267) = some (r1, r2) := by first | (rw [hy270]; with_reducible exact H) | (have H2_ := (Option.bind_some _ _).symm.trans H; rw [hy270]; with_reducible exact H2_) | (have H2_ := (Option.bind_some _ _).symm.trans H; with_reducible exact H2_) | with_reducible exact H | (rw [hy270]; exact H) | exact H
     have Ny270 := Aside0.mk hy270
     clear hy270
     have H' := Aside0.mk H
     clear H
     have p13 : 0 ≤ (x5_1 : Int) := of_decide_eq_true aM
     have q13 : x5_1 < (a0.size : Int) := of_decide_eq_true aM
     have hx13 := bt_at a0 x5_1
     replace p13 := eq_true p13
     replace q13 := eq_true q13
     go_wp2_with (first | ((with_reducible refine gate_callee (f := 27) rfl ?_); refine goesL_ (some 33) rfl rfl Tryd.func27 (by kernel_rfl) rfl #[.string a0, .int .i64 x5_1] rfl aO ?_; (with_reducible refine (withyref03_Get.calls kj4 a0 x5_1 t263 t264 t265 t266 t267 t268 _ A15.out).mono ?_); rintro e w18 ⟨rfl, hb⟩; refine ⟨_, rfl, ?_⟩; replace HO_4 := as_ (Kd.R_below (by (with_reducible repeat (first | apply Kd.R_alloc | apply Kd.R_drewN | apply Kd.R_drew)); exact HO_4.out) hb); replace HB := as_ (below_step bA hb); (try clear hb); (try clear hb2); (try clear hk); (try clear hi)) | ((with_reducible refine gate_dst (N := 6) rfl ?_); (try (refine gate_guard (by rfl) ?_; dsimp only)); refine box_event ?hg (N := 6) ?hd (cs := #[.int .i64 0, .int .i64 0, .int .u64 0, .string (⟨#[]⟩ : ByteArray)]) (t := 56) ?hr ?_; (case hd => rfl); (case hg => rfl); (case hr => first | (go_simp; done) | (go_simp; rfl)); intro gb269 hg w19 hbox hb; have BK269 := as_ (hbox); have GW269 := gw hg bA; have GE269 := gw hg bA; replace HO_4 := as_ (Kd.R_below (Kd.R_elderB (by (with_reducible repeat (first | apply Kd.R_alloc | apply Kd.R_drewN | apply Kd.R_drew)); exact HO_4.out) gb269 (Nat.le_of_eq hg.symm)) hb); replace HB := as_ (below_step bA hb); clear hb hbox hg; obtain ⟨hcz20_0, hcz20_1, hcz20_2, hcz20_3⟩ := zc4 BK269; obtain ⟨hfz20_0, hfz20_1, hfz20_2, hfz20_3⟩ := zf4 BK269) | ((with_reducible refine gate_builtin (b := .append) (xs := #[.tmp 40, .tmp 42]) rfl ?_); (try (refine gate_guard (by rfl) ?_; dsimp only)); at_builtin; refine Kd.R_append k56 (w0 := w) w.heap.size rfl (.tmp 40) (.tmp 42) 30 56 (.agg #[(.int .i64 0), (.int .i64 0), (.int .u64 0), (.string ⟨#[]⟩)]) 40 rfl Tryd.underlying30 info56 rfl (by decide) (by omega) u4 x4_1 (⟨t263, t264, t265, t266⟩ : S56) [.int .i64 t263, .int .i64 t264, .int .u64 t265, .string t266] (fun k_ => k_ ≠ gb269) (fun _ => False) rfl (by first | (go_simp; done) | (go_simp; rfl)) ?aP (fun _ hk => hk.elim) ?aF ?aO ?aB ?aS ?aL ?_; (case aP => exact k56_mkM _ _ _ (⟨t263, t264, t265, t266⟩ : S56)); (case aB => exact bA); (case aF => exact (fun k_ hk => Kd.freshB (g := gb269) (o := .cells #[.int .i64 t263, .int .i64 t264, .int .u64 t265, .string t266] 56 (0, 0)) (by refine bx ?_; refine blk_put (cs := #[.int .i64 t263, .int .i64 t264, .int .u64 t265, .string (⟨#[]⟩ : ByteArray)]) ?_ 3 _ rfl; refine bx ?_; refine blk_put (cs := #[.int .i64 t263, .int .i64 t264, .int .u64 0, .string (⟨#[]⟩ : ByteArray)]) ?_ 2 _ rfl; refine bx ?_; refine blk_put (cs := #[.int .i64 t263, .int .i64 0, .int .u64 0, .string (⟨#[]⟩ : ByteArray)]) ?_ 1 _ rfl; refine bx ?_; refine blk_put (cs := #[.int .i64 0, .int .i64 0, .int .u64 0, .string (⟨#[]⟩ : ByteArray)]) ?_ 0 _ rfl; refine bx ?_; exact BK269.out) k_ hk)); (case aO => exact (by (with_reducible repeat (first | apply Kd.R_alloc | apply Kd.R_drewN | apply Kd.R_drew)); exact Kd.R_mono (Kd.R_far (p := ⟨gb269, 3, none⟩) (Kd.R_far (p := ⟨gb269, 2, none⟩) (Kd.R_far (p := ⟨gb269, 1, none⟩) (Kd.R_far (p := ⟨gb269, 0, none⟩) (Kd.R_mono HO_4.out (fun k_ hk => (⟨hk, hk.2⟩ : _ ∧ k_ ≠ gb269))) (fun _ hk => hk.2) (.int .i64 t263)) (fun _ hk => hk.2) (.int .i64 t264)) (fun _ hk => hk.2) (.int .u64 t265)) (fun _ hk => hk.2) (.string t266)) (fun _ hk => hk.1.2))); (case aS => exact (below_size bA)); (case aL => have := LMc17.out; omega); intro v271 w21 ho hb hg hat; rw [← Ny270.out] at ho; have HO272 := as_ (ho); replace BK269 := as_ (blk_grown (g := gb269) (o := .cells #[.int .i64 t263, .int .i64 t264, .int .u64 t265, .string t266] 56 (0, 0)) (by refine bx ?_; refine blk_put (cs := #[.int .i64 t263, .int .i64 t264, .int .u64 t265, .string (⟨#[]⟩ : ByteArray)]) ?_ 3 _ rfl; refine bx ?_; refine blk_put (cs := #[.int .i64 t263, .int .i64 t264, .int .u64 0, .string (⟨#[]⟩ : ByteArray)]) ?_ 2 _ rfl; refine bx ?_; refine blk_put (cs := #[.int .i64 t263, .int .i64 0, .int .u64 0, .string (⟨#[]⟩ : ByteArray)]) ?_ 1 _ rfl; refine bx ?_; refine blk_put (cs := #[.int .i64 0, .int .i64 0, .int .u64 0, .string (⟨#[]⟩ : ByteArray)]) ?_ 0 _ rfl; refine bx ?_; exact BK269.out) hg (Kd.R_away HO_4.out (fun _ hk => hk.2))); replace HB := as_ (hb); clear HO_4; clear ho hb hg hat))
     go_roundg kj4
     case measure => have := HK1.out; have := HJ4.out; omega
     case rel => exact ⟨(y270), (t267), (by first | rfl | (simp; done) | (simp [*]; done)), H', ⟨by have := HK1.out; have := HJ4.out; omega⟩, ⟨by (with_reducible repeat (first | apply Kd.R_alloc | apply Kd.R_drewN | apply Kd.R_drew)); exact Kd.R_mono HO272.out (fun _ hk => trivial)⟩, ⟨by repeat (first | (with_reducible first | exact HB.out | apply below_alloc | apply pw_below_drewN | apply below_drew1 | refine below_set ?_ GE269.out) | exact HB.out)⟩⟩
/-! ### key_Part: function 15 -/
def key_Part.f (k : Nat) (a0 : ByteArray) (a1 : Int) : Option (ByteArray × Int) := (key_read.f k a0).bind fun bt273 => (if bt273.2.2 = 0 then (if a1 < 0 then (some ((⟨#[]⟩ : ByteArray), 4)) else (if a1 ≥ (bt273.2.1.length : Int) then (some ((⟨#[]⟩ : ByteArray), 4)) else (if 0 ≤ a1 then (if a1 < (bt273.2.1.length : Int) then (if 0 ≤ (rd bt273.2.1 a1) then (if (rd bt273.2.1 a1) ≤ (a0.size : Int) then (some (a0.extract 0 ((rd bt273.2.1 a1) : Int).toNat, 0)) else (none)) else (none)) else (none)) else (none)))) else (some ((⟨#[]⟩ : ByteArray), bt273.2.2)))
theorem key_Part.mono : ∀ a0 a1 k, LeO (key_Part.f k a0 a1) (key_Part.f (k + 1) a0 a1) := by
 intro a0 a1 k
 unfold key_Part.f
 repeat' first
   | (with_reducible exact key_read.mono _ _)
   | (with_reducible exact LeO.refl _)
   | (with_reducible exact LeO.none _)
   | (with_reducible refine LeO.ite ?_ ?_)
   | (with_reducible refine LeO.bind ?_ (fun _ => ?_))
   | exact key_read.mono _ _
   | exact LeO.none _
   | refine LeO.ite ?_ ?_
   | refine LeO.bind ?_ (fun _ => ?_)
set_option maxHeartbeats 8000000 in
set_option maxRecDepth 100000 in
theorem key_Part.calls (k : Nat) (a0 : ByteArray) (a1 : Int) (r1 : ByteArray) (r2 : Int) (w : World) (h : key_Part.f k a0 a1 = some (r1, r2)) :
  Calls Tryd.prog 15 #[.string a0, .int .i64 a1] w fun e w' => e = .returned (.tuple #[.string r1, .int .i64 r2]) ∧ Below w.heap.size w w' := by
 have HB := as_ (Below.refl w.heap.size w)
 have H : ((key_read.f k a0).bind fun bt273 => (if bt273.2.2 = 0 then (if a1 < 0 then (some ((⟨#[]⟩ : ByteArray), 4)) else (if a1 ≥ (bt273.2.1.length : Int) then (some ((⟨#[]⟩ : ByteArray), 4)) else (if 0 ≤ a1 then (if a1 < (bt273.2.1.length : Int) then (if 0 ≤ (rd bt273.2.1 a1) then (if (rd bt273.2.1 a1) ≤ (a0.size : Int) then (some (a0.extract 0 ((rd bt273.2.1 a1) : Int).toNat, 0)) else (none)) else (none)) else (none)) else (none)))) else (some ((⟨#[]⟩ : ByteArray), bt273.2.2)))) = some (r1, r2) := h
 clear h
 replace H := bM H
 obtain ⟨⟨t273, t274, t275⟩, A30, H⟩ := H
 replace H : (if t275 = 0 then (if a1 < 0 then (some ((⟨#[]⟩ : ByteArray), 4)) else (if a1 ≥ (t274.length : Int) then (some ((⟨#[]⟩ : ByteArray), 4)) else (if 0 ≤ a1 then (if a1 < (t274.length : Int) then (if 0 ≤ (rd t274 a1) then (if (rd t274 a1) ≤ (a0.size : Int) then (some (a0.extract 0 ((rd t274 a1) : Int).toNat, 0)) else (none)) else (none)) else (none)) else (none)))) else (some ((⟨#[]⟩ : ByteArray), t275))) = some (r1, r2) := H
 have A3 := Aside0.mk A30
 clear A30
 by_cases c4 : t275 = 0
 rotate_left
 ·rw [if_neg c4] at H
  have c4b0 : (t275 == 0) = false := beq_eq_false_iff_ne.mpr c4
  have c4b1 : (t275 != 0) = true := bne_iff_ne.mpr c4
  simp only [Option.some.injEq, Prod.mk.injEq] at H
  obtain ⟨rfl, rfl⟩ := H
  go_enter Tryd.func15, Tryd.ntmps15
  go_wp2_with (first | ((with_reducible refine gate_callee (f := 26) rfl ?_); refine goesL_ (some 11) rfl rfl Tryd.func26 (by kernel_rfl) rfl #[.string a0] rfl aO ?_; (with_reducible refine (key_read.calls k a0 t273 t274 t275 _ A3.out).mono ?_); rintro e w17 ⟨v276, v278, rfl, ho0, ho1, hb⟩; refine ⟨_, rfl, ?_⟩; have HO277 := as_ (Kd.R_lower ho0 (below_size bA)); have HO279 := as_ (Kd.R_lower ho1 (below_size bA)); replace HB := as_ (below_step bA hb); (try clear hb); (try clear hb2); (try clear hk); (try clear hi); (try clear ho0); (try clear ho1)))
  go_ret2
  exact ⟨eW, by repeat (first | (with_reducible first | exact HB.out | apply below_alloc | apply pw_below_drewN | apply below_drew1) | exact HB.out)⟩
 
 rw [if_pos c4] at H
 have c4b0 : (t275 == 0) = true := beq_iff_eq.mpr c4
 have c4b1 : (t275 != 0) = false := bne_eq_false_iff_eq.mpr c4
 clear c4
 by_cases c5 : a1 < 0
 ·rw [if_pos c5] at H
  have c5b0 : decide (a1 < 0) = true := decide_eq_true c5
  clear c5
  simp only [Option.some.injEq, Prod.mk.injEq] at H
  obtain ⟨rfl, rfl⟩ := H
  go_enter Tryd.func15, Tryd.ntmps15
  go_wp2_with (first | ((with_reducible refine gate_callee (f := 26) rfl ?_); refine goesL_ (some 11) rfl rfl Tryd.func26 (by kernel_rfl) rfl #[.string a0] rfl aO ?_; (with_reducible refine (key_read.calls k a0 t273 t274 t275 _ A3.out).mono ?_); rintro e w6 ⟨v276, v278, rfl, ho0, ho1, hb⟩; refine ⟨_, rfl, ?_⟩; have HO277 := as_ (Kd.R_lower ho0 (below_size bA)); have HO279 := as_ (Kd.R_lower ho1 (below_size bA)); replace HB := as_ (below_step bA hb); (try clear hb); (try clear hb2); (try clear hk); (try clear hi); (try clear ho0); (try clear ho1)))
  go_ret2
  exact ⟨eW, by repeat (first | (with_reducible first | exact HB.out | apply below_alloc | apply pw_below_drewN | apply below_drew1) | exact HB.out)⟩
 rw [if_neg c5] at H
 have c5b0 : decide (a1 < 0) = false := decide_eq_false c5
 clear c5
 by_cases c7 : a1 ≥ (t274.length : Int)
 ·rw [if_pos c7] at H
  have c7b0 : decide ((t274.length : Int) ≤ a1) = true := decide_eq_true c7
  clear c7
  simp only [Option.some.injEq, Prod.mk.injEq] at H
  obtain ⟨rfl, rfl⟩ := H
  go_enter Tryd.func15, Tryd.ntmps15
  go_wp2_with (first | ((with_reducible refine gate_callee (f := 26) rfl ?_); refine goesL_ (some 11) rfl rfl Tryd.func26 (by kernel_rfl) rfl #[.string a0] rfl aO ?_; (with_reducible refine (key_read.calls k a0 t273 t274 t275 _ A3.out).mono ?_); rintro e w8 ⟨v276, v278, rfl, ho0, ho1, hb⟩; refine ⟨_, rfl, ?_⟩; have HO277 := as_ (Kd.R_lower ho0 (below_size bA)); have HO279 := as_ (Kd.R_lower ho1 (below_size bA)); replace HB := as_ (below_step bA hb); (try clear hb); (try clear hb2); (try clear hk); (try clear hi); (try clear ho0); (try clear ho1); obtain ⟨Ao9, co9, eo9⟩ := Kd.R_slice HO279.out; subst eo9))
  go_ret2
  exact ⟨eW, by repeat (first | (with_reducible first | exact HB.out | apply below_alloc | apply pw_below_drewN | apply below_drew1) | exact HB.out)⟩
 rw [if_neg c7] at H
 have c7b0 : decide ((t274.length : Int) ≤ a1) = false := decide_eq_false c7
 clear c7
 by_cases c10 : 0 ≤ a1
 rotate_left
 ·rw [if_neg c10] at H
  exact absurd H (by simp)
 rw [if_pos c10] at H
 have c10b0 : decide (0 ≤ a1) = true := decide_eq_true c10
 clear c10
 by_cases c11 : a1 < (t274.length : Int)
 rotate_left
 ·rw [if_neg c11] at H
  exact absurd H (by simp)
 rw [if_pos c11] at H
 have c11b0 : decide (a1 < (t274.length : Int)) = true := decide_eq_true c11
 clear c11
 by_cases c12 : 0 ≤ (rd t274 a1)
 rotate_left
 ·rw [if_neg c12] at H
  exact absurd H (by simp)
 rw [if_pos c12] at H
 have c12b0 := eq_true c12
 have c12b1 : decide (0 ≤ (rd t274 a1)) = true := decide_eq_true c12
 clear c12
 by_cases c13 : (rd t274 a1) ≤ (a0.size : Int)
 rotate_left
 ·rw [if_neg c13] at H
  exact absurd H (by simp)
 rw [if_pos c13] at H
 have c13b0 := eq_true c13
 have c13b1 : decide ((rd t274 a1) ≤ (a0.size : Int)) = true := decide_eq_true c13
 clear c13
 obtain ⟨js14, hjs14⟩ : ∃ j_ : ByteArray, (a0.extract 0 ((rd t274 a1) : Int).toNat) = j_ := ⟨_, rfl⟩
 replace H : (some (js14, 0)) = some (r1, r2) := by first | (rw [hjs14] at H; exact H) | (simp only [hjs14] at H ⊢; exact H)
 (try rw [hjs14] at A3)
 simp only [Option.some.injEq, Prod.mk.injEq] at H
 obtain ⟨rfl, rfl⟩ := H
 go_enter Tryd.func15, Tryd.ntmps15
 go_wp2_with (first | ((with_reducible refine gate_callee (f := 26) rfl ?_); refine goesL_ (some 11) rfl rfl Tryd.func26 (by kernel_rfl) rfl #[.string a0] rfl aO ?_; (with_reducible refine (key_read.calls k a0 t273 t274 t275 _ A3.out).mono ?_); rintro e w15 ⟨v276, v278, rfl, ho0, ho1, hb⟩; refine ⟨_, rfl, ?_⟩; have HO277 := as_ (Kd.R_lower ho0 (below_size bA)); have HO279 := as_ (Kd.R_lower ho1 (below_size bA)); replace HB := as_ (below_step bA hb); (try clear hb); (try clear hb2); (try clear hk); (try clear hi); (try clear ho0); (try clear ho1); obtain ⟨Ao16, co16, eo16⟩ := Kd.R_slice HO279.out; subst eo16; have p280 : 0 ≤ (a1 : Int) := of_decide_eq_true aM; have q280 : a1 < (t274.length : Int) := of_decide_eq_true aM; obtain ⟨ad280, e280, hx280_0⟩ := Kd.at_int (Kd.R_reads' HO279.out).2.2 a1 p280 q280; cases e280; replace p280 := eq_true p280; replace q280 := eq_true q280))
 go_ret2
 exact ⟨by first | rfl | (simp [errW_none, errW_some] <;> rfl) | (simp only [← hjs14]; first | rfl | (simp [errW_none, errW_some] <;> rfl)) | (simp [*, errW_none, errW_some] <;> rfl), by repeat (first | (with_reducible first | exact HB.out | apply below_alloc | apply pw_below_drewN | apply below_drew1) | exact HB.out)⟩
end Go.Proofs.YthaicofleloplaaDoor.P
