/- What is proved here: for functions of the Go text, a Lean function each, and that the call comes to just what it answers. Conditions: as each contract names them. Written by wip/tools/myprint.py, a driver of the print of the kit. -/
import Derived.Test.YthaicofleloplaaDoorP0
import Derived.Test.YthaicofleloplaaDoorP6
import Derived.Test.YthaicofleloplaaDoorP7
import Derived.Test.YthaicofleloplaaDoorWAbbr
namespace Go.Proofs.YthaicofleloplaaDoor.P
open Go.RowKit Go.Proofs.YthaicofleloplaaDoorW.PrintWords Go.Proofs.YthaicofleloplaaDoorW.PrintLast Go.Proofs.YthaicofleloplaaDoorW.PrintMore Go.Proofs.YthaicofleloplaaDoorW.Abbr
-- PACKED
attribute [local go_sem] max2_int min2_int max_two min_two max_three min_three max_four min_four Go.Proofs.YthaicofleloplaaDoorLaws.str_leq Go.Proofs.YthaicofleloplaaDoorLaws.str_gtr Go.Proofs.YthaicofleloplaaDoorLaws.str_geq Go.Proofs.YthaicofleloplaaDoorLaws.max2_str Go.Proofs.YthaicofleloplaaDoorLaws.min2_str   -- for this text's walks alone
set_option linter.unusedVariables false
set_option linter.unusedSimpArgs false

/-! ### col_text: function 70 -/
def col_text.l0 : Nat → ByteArray → List Int → Int → Option (ByteArray × Int × Int)
 | 0, _, _, _ => none
 | k + 1, x0, x7, x8 => if x8 < (x0.size : Int) then (if 0 ≤ x8 then (if (bt x0 x8) = 0 then (if (wrap64 (x8 + 1)) = (x0.size : Int) then (some ((⟨#[]⟩ : ByteArray), 0, 7)) else (if 0 ≤ (wrap64 (x8 + 1)) then (if (wrap64 (x8 + 1)) < (x0.size : Int) then (if (bt x0 (wrap64 (x8 + 1))) = 1 then (some (strOfNums x7, wrap64 ((wrap64 (x8 + 1)) + 1), 0)) else (if (bt x0 (wrap64 (x8 + 1))) = 255 then (if x7.length < 140737488355328 then (col_text.l0 k x0 (x7 ++ [0]) (wrap64 ((wrap64 (x8 + 1)) + 1))) else (none)) else (some ((⟨#[]⟩ : ByteArray), 0, 3)))) else (none)) else (none))) else (if x7.length < 140737488355328 then (col_text.l0 k x0 (x7 ++ [bt x0 x8]) (wrap64 (x8 + 1))) else (none))) else (none)) else (some ((⟨#[]⟩ : ByteArray), 0, 7))
def col_text.f (k : Nat) (a0 : ByteArray) (a1 : Int) : Option (ByteArray × Int × Int) := col_text.l0 k a0 ([] : List Int) a1
theorem col_text.mono_l : ∀ k, (∀ y0 y1 y2, LeO (col_text.l0 k y0 y1 y2) (col_text.l0 (k + 1) y0 y1 y2))
 | 0 => fun _ _ _ r h => by simp [col_text.l0] at h
 | k + 1 => by
  have ih0 := col_text.mono_l k
  ·intro y0 y1 y2
   unfold col_text.l0
   repeat' first
   | (with_reducible exact ih0 _ _ _)
   | (with_reducible exact LeO.refl _)
   | (with_reducible exact LeO.none _)
   | (with_reducible refine LeO.ite ?_ ?_)
   | (with_reducible refine LeO.bind ?_ (fun _ => ?_))
   | exact ih0 _ _ _
   | exact LeO.none _
   | refine LeO.ite ?_ ?_
   | refine LeO.bind ?_ (fun _ => ?_)
theorem col_text.mono : ∀ a0 a1 k, LeO (col_text.f k a0 a1) (col_text.f (k + 1) a0 a1) := by
 intro a0 a1 k
 have ih0 := col_text.mono_l k
 unfold col_text.f
 repeat' first
   | (with_reducible exact ih0 _ _ _)
   | (with_reducible exact LeO.refl _)
   | (with_reducible exact LeO.none _)
   | (with_reducible refine LeO.ite ?_ ?_)
   | (with_reducible refine LeO.bind ?_ (fun _ => ?_))
   | exact ih0 _ _ _
   | exact LeO.none _
   | refine LeO.ite ?_ ?_
   | refine LeO.bind ?_ (fun _ => ?_)
set_option maxHeartbeats 8000000 in
set_option maxRecDepth 100000 in
theorem col_text.calls (k : Nat) (a0 : ByteArray) (a1 : Int) (r1 : ByteArray) (r2 : Int) (r3 : Int) (w : World) (h : col_text.f k a0 a1 = some (r1, r2, r3)) :
  Calls Tryd.prog 70 #[.string a0, .int .i64 a1] w fun e w' => e = .returned (.tuple #[.string r1, .int .i64 r2, .int .i64 r3]) ∧ Below w.heap.size w w' := by
 have HB := as_ (Below.refl w.heap.size w)
 have H : (col_text.l0 k a0 ([] : List Int) a1) = some (r1, r2, r3) := h
 clear h
 have H' := Aside0.mk H
 clear H
 go_enter Tryd.func70, Tryd.ntmps70
 go_wp2
 repeat (go_quiet (fail); try go_wp2)
 go_loopg [7, 8] k (fun kq v7 v8 w' => ∃ (x7_1 : List Int) (x8_1 : Int), v8 = .int .i64 x8_1 ∧ Aside0 (col_text.l0 kq a0 x7_1 x8_1 = some (r1, r2, r3)) ∧ Aside0 (kq ≤ k) ∧ Aside0 (Kd.R (Kd.int .u8) 5 w' w.heap.size (fun _ => True) v7 x7_1) ∧ Aside0 (Below w.heap.size w w'))
 case atStart => exact ⟨(([] : List Int)), (a1), (by first | rfl | (simp; done) | (simp [*]; done)), H', ⟨Nat.le_refl _⟩, ⟨by first | exact Kd.R_nil _ _ _ _ _ | exact Kd.N_nil _ _ _ _ _ | exact Kd.V_nil _ _ _ _ _ | exact Kd.Q_nil _ _ _ _ _ | exact Kd.S_nil _ _ _ _ _⟩, ⟨by repeat (first | (with_reducible first | exact HB.out | apply below_alloc | apply pw_below_drewN | apply below_drew1) | exact HB.out)⟩⟩
 case round =>
  clear H'
  try clear p2
  obtain ⟨x7_1, x8_1, rfl, HA, HK1, HO_7, HB⟩ := hrel
  cases gk with
  | zero => exact absurd HA.out (by simp [col_text.l0])
  | succ k1 =>
   have H := HA.out
   clear HA
   simp only [col_text.l0] at H
   by_cases c3 : x8_1 < (a0.size : Int)
   rotate_left
   ·rw [if_neg c3] at H
    have c3b0 : decide (x8_1 < (a0.size : Int)) = false := decide_eq_false c3
    clear c3
    simp only [Option.some.injEq, Prod.mk.injEq] at H
    obtain ⟨rfl, rfl, rfl⟩ := H
    go_wp2
    repeat (go_quiet (fail); try go_wp2)
    go_ret3
    exact ⟨eW, by repeat (first | (with_reducible first | exact HB.out | apply below_alloc | apply pw_below_drewN | apply below_drew1) | exact HB.out)⟩
 
   rw [if_pos c3] at H
   have c3b0 : decide (x8_1 < (a0.size : Int)) = true := decide_eq_true c3
   clear c3
   by_cases c4 : 0 ≤ x8_1
   rotate_left
   ·rw [if_neg c4] at H
    exact absurd H (by simp)
   rw [if_pos c4] at H
   have c4b0 : decide (0 ≤ x8_1) = true := decide_eq_true c4
   clear c4
   by_cases c6 : (bt a0 x8_1) = 0
   rotate_left
   ·rw [if_neg c6] at H
    have c6b0 : ((bt a0 x8_1) == 0) = false := beq_eq_false_iff_ne.mpr c6
    have c6b1 : ((bt a0 x8_1) != 0) = true := bne_iff_ne.mpr c6
    by_cases c21 : x7_1.length < 140737488355328
    rotate_left
    ·rw [if_neg c21] at H
     exact absurd H (by simp)
    rw [if_pos c21] at H
    have LMc21 := Aside0.mk c21
    clear c21
    obtain ⟨y214, hy214⟩ : ∃ y_ : List Int, y_ = (x7_1 ++ [bt a0 x8_1]) := ⟨_, rfl⟩
    replace H : (col_text.l0 k1 a0 y214 (wrap64 (x8_1 + 1))) = some (r1, r2, r3) := by first | (rw [hy214]; with_reducible exact H) | (have H2_ := (Option.bind_some _ _).symm.trans H; rw [hy214]; with_reducible exact H2_) | (have H2_ := (Option.bind_some _ _).symm.trans H; with_reducible exact H2_) | with_reducible exact H | (rw [hy214]; exact H) | exact H
    have Ny214 := Aside0.mk hy214
    clear hy214
    have H' := Aside0.mk H
    clear H
    have p5 : 0 ≤ (x8_1 : Int) := of_decide_eq_true aM
    have q5 : x8_1 < (a0.size : Int) := of_decide_eq_true aM
    have hx5 := bt_at a0 x8_1
    replace p5 := eq_true p5
    replace q5 := eq_true q5
    have p20 : 0 ≤ (x8_1 : Int) := of_decide_eq_true aM
    have q20 : x8_1 < (a0.size : Int) := of_decide_eq_true aM
    have hx20 := bt_at a0 x8_1
    replace p20 := eq_true p20
    replace q20 := eq_true q20
    go_wp2_with (first | ((with_reducible refine gate_builtin (b := .append) (xs := #[.tmp 20, .tmp 24]) rfl ?_); at_builtin; refine Kd.R_append (Kd.int .u8) (w0 := w) w.heap.size rfl (.tmp 20) (.tmp 24) 45 5 (.int .u8 0) 1 rfl Tryd.underlying45 info5 rfl (by decide) (by omega) u7 x7_1 (bt a0 x8_1) [.int .u8 (bt a0 x8_1)] (fun _ => True) (fun _ => False) rfl rfl ?aP (fun _ hk => hk.elim) ?aF ?aO ?aB ?aS ?aL ?_; (case aP => exact rfl); (case aB => exact bA); (case aF => exact (fun _ _ => trivial)); (case aO => exact (by (with_reducible repeat (first | apply Kd.R_alloc | apply Kd.R_drewN | apply Kd.R_drew)); exact HO_7.out)); (case aS => exact (below_size bA)); (case aL => have := LMc21.out; omega); intro v215 w22 ho hb hg hat; rw [← Ny214.out] at ho; have HO216 := as_ (ho); replace HB := as_ (hb); clear HO_7; clear ho hb hg hat))
    repeat (go_quiet (first | ((with_reducible refine gate_builtin (b := .append) (xs := #[.tmp 20, .tmp 24]) rfl ?_); at_builtin; refine Kd.R_append (Kd.int .u8) (w0 := w) w.heap.size rfl (.tmp 20) (.tmp 24) 45 5 (.int .u8 0) 1 rfl Tryd.underlying45 info5 rfl (by decide) (by omega) u7 x7_1 (bt a0 x8_1) [.int .u8 (bt a0 x8_1)] (fun _ => True) (fun _ => False) rfl rfl ?aP (fun _ hk => hk.elim) ?aF ?aO ?aB ?aS ?aL ?_; (case aP => exact rfl); (case aB => exact bA); (case aF => exact (fun _ _ => trivial)); (case aO => exact (by (with_reducible repeat (first | apply Kd.R_alloc | apply Kd.R_drewN | apply Kd.R_drew)); exact HO_7.out)); (case aS => exact (below_size bA)); (case aL => have := LMc21.out; omega); intro v215 w22 ho hb hg hat; rw [← Ny214.out] at ho; have HO216 := as_ (ho); replace HB := as_ (hb); clear HO_7; clear ho hb hg hat)); try go_wp2_with (first | ((with_reducible refine gate_builtin (b := .append) (xs := #[.tmp 20, .tmp 24]) rfl ?_); at_builtin; refine Kd.R_append (Kd.int .u8) (w0 := w) w.heap.size rfl (.tmp 20) (.tmp 24) 45 5 (.int .u8 0) 1 rfl Tryd.underlying45 info5 rfl (by decide) (by omega) u7 x7_1 (bt a0 x8_1) [.int .u8 (bt a0 x8_1)] (fun _ => True) (fun _ => False) rfl rfl ?aP (fun _ hk => hk.elim) ?aF ?aO ?aB ?aS ?aL ?_; (case aP => exact rfl); (case aB => exact bA); (case aF => exact (fun _ _ => trivial)); (case aO => exact (by (with_reducible repeat (first | apply Kd.R_alloc | apply Kd.R_drewN | apply Kd.R_drew)); exact HO_7.out)); (case aS => exact (below_size bA)); (case aL => have := LMc21.out; omega); intro v215 w22 ho hb hg hat; rw [← Ny214.out] at ho; have HO216 := as_ (ho); replace HB := as_ (hb); clear HO_7; clear ho hb hg hat)))
    go_roundg k1
    case measure => have := HK1.out; omega
    case rel => exact ⟨(y214), (wrap64 (x8_1 + 1)), (by first | rfl | (simp; done) | (simp [*]; done)), H', ⟨by have := HK1.out; omega⟩, ⟨by (with_reducible repeat (first | apply Kd.R_alloc | apply Kd.R_drewN | apply Kd.R_drew)); exact HO216.out⟩, ⟨by repeat (first | (with_reducible first | exact HB.out | apply below_alloc | apply pw_below_drewN | apply below_drew1) | exact HB.out)⟩⟩
   rw [if_pos c6] at H
   have c6b0 : ((bt a0 x8_1) == 0) = true := beq_iff_eq.mpr c6
   have c6b1 : ((bt a0 x8_1) != 0) = false := bne_eq_false_iff_eq.mpr c6
   clear c6
   by_cases c7 : (wrap64 (x8_1 + 1)) = (a0.size : Int)
   ·rw [if_pos c7] at H
    have c7b0 : ((wrap64 (x8_1 + 1)) == (a0.size : Int)) = true := beq_iff_eq.mpr c7
    have c7b1 : ((wrap64 (x8_1 + 1)) != (a0.size : Int)) = false := bne_eq_false_iff_eq.mpr c7
    clear c7
    simp only [Option.some.injEq, Prod.mk.injEq] at H
    obtain ⟨rfl, rfl, rfl⟩ := H
    have p5 : 0 ≤ (x8_1 : Int) := of_decide_eq_true aM
    have q5 : x8_1 < (a0.size : Int) := of_decide_eq_true aM
    have hx5 := bt_at a0 x8_1
    replace p5 := eq_true p5
    replace q5 := eq_true q5
    go_wp2
    repeat (go_quiet (fail); try go_wp2)
    go_ret3
    exact ⟨eW, by repeat (first | (with_reducible first | exact HB.out | apply below_alloc | apply pw_below_drewN | apply below_drew1) | exact HB.out)⟩
   rw [if_neg c7] at H
   have c7b0 : ((wrap64 (x8_1 + 1)) == (a0.size : Int)) = false := beq_eq_false_iff_ne.mpr c7
   have c7b1 : ((wrap64 (x8_1 + 1)) != (a0.size : Int)) = true := bne_iff_ne.mpr c7
   obtain ⟨ji8, hji8⟩ : ∃ j_ : Int, (wrap64 (x8_1 + 1)) = j_ := ⟨_, rfl⟩
   replace H : (if 0 ≤ (ji8) then (if (ji8) < (a0.size : Int) then (if (bt a0 (ji8)) = 1 then (some (strOfNums x7_1, wrap64 ((ji8) + 1), 0)) else (if (bt a0 (ji8)) = 255 then (if x7_1.length < 140737488355328 then (col_text.l0 k1 a0 (x7_1 ++ [0]) (wrap64 ((ji8) + 1))) else (none)) else (some ((⟨#[]⟩ : ByteArray), 0, 3)))) else (none)) else (none)) = some (r1, r2, r3) := by first | (rw [hji8] at H; exact H) | (simp only [hji8] at H ⊢; exact H)
   (try rw [hji8] at c7b0)
   (try rw [hji8] at c7b1)
   have hji8w : (IntKind.i64.wrap (x8_1 + 1)) = ji8 := (i64_w _).trans hji8
   by_cases c9 : 0 ≤ (ji8)
   rotate_left
   ·rw [if_neg c9] at H
    exact absurd H (by simp)
   rw [if_pos c9] at H
   have c9b0 : decide (0 ≤ (ji8)) = true := decide_eq_true c9
   clear c9
   by_cases c10 : (ji8) < (a0.size : Int)
   rotate_left
   ·rw [if_neg c10] at H
    exact absurd H (by simp)
   rw [if_pos c10] at H
   have c10b0 : decide ((ji8) < (a0.size : Int)) = true := decide_eq_true c10
   clear c10
   by_cases c13 : (bt a0 (ji8)) = 1
   ·rw [if_pos c13] at H
    have c13b0 : ((bt a0 (ji8)) == 1) = true := beq_iff_eq.mpr c13
    have c13b1 : ((bt a0 (ji8)) != 1) = false := bne_eq_false_iff_eq.mpr c13
    clear c13
    simp only [Option.some.injEq, Prod.mk.injEq] at H
    obtain ⟨rfl, rfl, rfl⟩ := H
    have p5 : 0 ≤ (x8_1 : Int) := of_decide_eq_true aM
    have q5 : x8_1 < (a0.size : Int) := of_decide_eq_true aM
    have hx5 := bt_at a0 x8_1
    replace p5 := eq_true p5
    replace q5 := eq_true q5
    have p11 : 0 ≤ ((ji8) : Int) := of_decide_eq_true aM
    have q11 : (ji8) < (a0.size : Int) := of_decide_eq_true aM
    have hx11 := bt_at a0 (ji8)
    replace p11 := eq_true p11
    replace q11 := eq_true q11
    have p12 : 0 ≤ (1 : Int) := (by omega)
    have q12 : 1 < (2 : Int) := (by omega)
    have hx12 : ((((⟨#[0, 1]⟩ : ByteArray)[1]'(by decide)).toNat : Nat) : Int) = 1 := rfl
    replace p12 := eq_true p12
    replace q12 := eq_true q12
    have hcv14 := own_string (P := Tryd.prog) Tryd.underlying45 Tryd.underlying5 Tryd.underlying9 (Kd.own_of_R HO_7.out)
    have hcv14d := fun n_ : Nat => own_string (P := Tryd.prog) Tryd.underlying45 Tryd.underlying5 Tryd.underlying9 (Kd.own_of_R (Kd.R_drewN HO_7.out n_))
    go_wp2
    repeat (go_quiet (fail); try go_wp2)
    go_ret3
    exact ⟨by first | rfl | (simp [errW_none, errW_some] <;> rfl) | (simp only [← hji8]; first | rfl | (simp [errW_none, errW_some] <;> rfl)) | (simp [*, errW_none, errW_some] <;> rfl), by repeat (first | (with_reducible first | exact HB.out | apply below_alloc | apply pw_below_drewN | apply below_drew1) | exact HB.out)⟩
   rw [if_neg c13] at H
   have c13b0 : ((bt a0 (ji8)) == 1) = false := beq_eq_false_iff_ne.mpr c13
   have c13b1 : ((bt a0 (ji8)) != 1) = true := bne_iff_ne.mpr c13
   by_cases c17 : (bt a0 (ji8)) = 255
   rotate_left
   ·rw [if_neg c17] at H
    have c17b0 : ((bt a0 (ji8)) == 255) = false := beq_eq_false_iff_ne.mpr c17
    have c17b1 : ((bt a0 (ji8)) != 255) = true := bne_iff_ne.mpr c17
    simp only [Option.some.injEq, Prod.mk.injEq] at H
    obtain ⟨rfl, rfl, rfl⟩ := H
    have p5 : 0 ≤ (x8_1 : Int) := of_decide_eq_true aM
    have q5 : x8_1 < (a0.size : Int) := of_decide_eq_true aM
    have hx5 := bt_at a0 x8_1
    replace p5 := eq_true p5
    replace q5 := eq_true q5
    have p11 : 0 ≤ ((ji8) : Int) := of_decide_eq_true aM
    have q11 : (ji8) < (a0.size : Int) := of_decide_eq_true aM
    have hx11 := bt_at a0 (ji8)
    replace p11 := eq_true p11
    replace q11 := eq_true q11
    have p12 : 0 ≤ (1 : Int) := (by omega)
    have q12 : 1 < (2 : Int) := (by omega)
    have hx12 : ((((⟨#[0, 1]⟩ : ByteArray)[1]'(by decide)).toNat : Nat) : Int) = 1 := rfl
    replace p12 := eq_true p12
    replace q12 := eq_true q12
    have p15 : 0 ≤ ((ji8) : Int) := of_decide_eq_true aM
    have q15 : (ji8) < (a0.size : Int) := of_decide_eq_true aM
    have hx15 := bt_at a0 (ji8)
    replace p15 := eq_true p15
    replace q15 := eq_true q15
    have p16 : 0 ≤ (1 : Int) := (by omega)
    have q16 : 1 < (2 : Int) := (by omega)
    have hx16 : ((((⟨#[0, 255]⟩ : ByteArray)[1]'(by decide)).toNat : Nat) : Int) = 255 := rfl
    replace p16 := eq_true p16
    replace q16 := eq_true q16
    go_wp2
    repeat (go_quiet (fail); try go_wp2)
    go_ret3
    exact ⟨by first | rfl | (simp [errW_none, errW_some] <;> rfl) | (simp only [← hji8]; first | rfl | (simp [errW_none, errW_some] <;> rfl)) | (simp [*, errW_none, errW_some] <;> rfl), by repeat (first | (with_reducible first | exact HB.out | apply below_alloc | apply pw_below_drewN | apply below_drew1) | exact HB.out)⟩
   rw [if_pos c17] at H
   have c17b0 : ((bt a0 (ji8)) == 255) = true := beq_iff_eq.mpr c17
   have c17b1 : ((bt a0 (ji8)) != 255) = false := bne_eq_false_iff_eq.mpr c17
   clear c17
   by_cases c18 : x7_1.length < 140737488355328
   rotate_left
   ·rw [if_neg c18] at H
    exact absurd H (by simp)
   rw [if_pos c18] at H
   have LMc18 := Aside0.mk c18
   clear c18
   obtain ⟨y217, hy217⟩ : ∃ y_ : List Int, y_ = (x7_1 ++ [0]) := ⟨_, rfl⟩
   replace H : (col_text.l0 k1 a0 y217 (wrap64 ((ji8) + 1))) = some (r1, r2, r3) := by first | (rw [hy217]; with_reducible exact H) | (have H2_ := (Option.bind_some _ _).symm.trans H; rw [hy217]; with_reducible exact H2_) | (have H2_ := (Option.bind_some _ _).symm.trans H; with_reducible exact H2_) | with_reducible exact H | (rw [hy217]; exact H) | exact H
   have Ny217 := Aside0.mk hy217
   clear hy217
   have H' := Aside0.mk H
   clear H
   have p5 : 0 ≤ (x8_1 : Int) := of_decide_eq_true aM
   have q5 : x8_1 < (a0.size : Int) := of_decide_eq_true aM
   have hx5 := bt_at a0 x8_1
   replace p5 := eq_true p5
   replace q5 := eq_true q5
   have p11 : 0 ≤ ((ji8) : Int) := of_decide_eq_true aM
   have q11 : (ji8) < (a0.size : Int) := of_decide_eq_true aM
   have hx11 := bt_at a0 (ji8)
   replace p11 := eq_true p11
   replace q11 := eq_true q11
   have p12 : 0 ≤ (1 : Int) := (by omega)
   have q12 : 1 < (2 : Int) := (by omega)
   have hx12 : ((((⟨#[0, 1]⟩ : ByteArray)[1]'(by decide)).toNat : Nat) : Int) = 1 := rfl
   replace p12 := eq_true p12
   replace q12 := eq_true q12
   have p15 : 0 ≤ ((ji8) : Int) := of_decide_eq_true aM
   have q15 : (ji8) < (a0.size : Int) := of_decide_eq_true aM
   have hx15 := bt_at a0 (ji8)
   replace p15 := eq_true p15
   replace q15 := eq_true q15
   have p16 : 0 ≤ (1 : Int) := (by omega)
   have q16 : 1 < (2 : Int) := (by omega)
   have hx16 : ((((⟨#[0, 255]⟩ : ByteArray)[1]'(by decide)).toNat : Nat) : Int) = 255 := rfl
   replace p16 := eq_true p16
   replace q16 := eq_true q16
   go_wp2_with (first | ((with_reducible refine gate_builtin (b := .append) (xs := #[.tmp 49, .tmp 50]) rfl ?_); at_builtin; refine Kd.R_append (Kd.int .u8) (w0 := w) w.heap.size rfl (.tmp 49) (.tmp 50) 45 5 (.int .u8 0) 1 rfl Tryd.underlying45 info5 rfl (by decide) (by omega) u7 x7_1 0 [.int .u8 0] (fun _ => True) (fun _ => False) rfl rfl ?aP (fun _ hk => hk.elim) ?aF ?aO ?aB ?aS ?aL ?_; (case aP => exact rfl); (case aB => exact bA); (case aF => exact (fun _ _ => trivial)); (case aO => exact (by (with_reducible repeat (first | apply Kd.R_alloc | apply Kd.R_drewN | apply Kd.R_drew)); exact HO_7.out)); (case aS => exact (below_size bA)); (case aL => have := LMc18.out; omega); intro v218 w19 ho hb hg hat; rw [← Ny217.out] at ho; have HO219 := as_ (ho); replace HB := as_ (hb); clear HO_7; clear ho hb hg hat))
   repeat (go_quiet (first | ((with_reducible refine gate_builtin (b := .append) (xs := #[.tmp 49, .tmp 50]) rfl ?_); at_builtin; refine Kd.R_append (Kd.int .u8) (w0 := w) w.heap.size rfl (.tmp 49) (.tmp 50) 45 5 (.int .u8 0) 1 rfl Tryd.underlying45 info5 rfl (by decide) (by omega) u7 x7_1 0 [.int .u8 0] (fun _ => True) (fun _ => False) rfl rfl ?aP (fun _ hk => hk.elim) ?aF ?aO ?aB ?aS ?aL ?_; (case aP => exact rfl); (case aB => exact bA); (case aF => exact (fun _ _ => trivial)); (case aO => exact (by (with_reducible repeat (first | apply Kd.R_alloc | apply Kd.R_drewN | apply Kd.R_drew)); exact HO_7.out)); (case aS => exact (below_size bA)); (case aL => have := LMc18.out; omega); intro v218 w19 ho hb hg hat; rw [← Ny217.out] at ho; have HO219 := as_ (ho); replace HB := as_ (hb); clear HO_7; clear ho hb hg hat)); try go_wp2_with (first | ((with_reducible refine gate_builtin (b := .append) (xs := #[.tmp 49, .tmp 50]) rfl ?_); at_builtin; refine Kd.R_append (Kd.int .u8) (w0 := w) w.heap.size rfl (.tmp 49) (.tmp 50) 45 5 (.int .u8 0) 1 rfl Tryd.underlying45 info5 rfl (by decide) (by omega) u7 x7_1 0 [.int .u8 0] (fun _ => True) (fun _ => False) rfl rfl ?aP (fun _ hk => hk.elim) ?aF ?aO ?aB ?aS ?aL ?_; (case aP => exact rfl); (case aB => exact bA); (case aF => exact (fun _ _ => trivial)); (case aO => exact (by (with_reducible repeat (first | apply Kd.R_alloc | apply Kd.R_drewN | apply Kd.R_drew)); exact HO_7.out)); (case aS => exact (below_size bA)); (case aL => have := LMc18.out; omega); intro v218 w19 ho hb hg hat; rw [← Ny217.out] at ho; have HO219 := as_ (ho); replace HB := as_ (hb); clear HO_7; clear ho hb hg hat)))
   go_roundg k1
   case measure => have := HK1.out; omega
   case rel => exact ⟨(y217), (wrap64 ((ji8) + 1)), (by first | rfl | (simp; done) | (simp only [← hji8] <;> (first | rfl | simp)) | (simp [*]; done)), H', ⟨by have := HK1.out; omega⟩, ⟨by (with_reducible repeat (first | apply Kd.R_alloc | apply Kd.R_drewN | apply Kd.R_drew)); exact HO219.out⟩, ⟨by repeat (first | (with_reducible first | exact HB.out | apply below_alloc | apply pw_below_drewN | apply below_drew1) | exact HB.out)⟩⟩
/-! ### col_Get: function 57 -/
mutual
def col_Get.j0 : Nat → ByteArray → Int → Bool → Option (Int × Int × Int × ByteArray × Int × Int)
 | 0, _, _, _ => none
 | k + 1, x0, x1, x18 => if x18 = true then (some (0, 0, 0, (⟨#[]⟩ : ByteArray), 0, 4)) else (if x1 = (x0.size : Int) then (some (0, 0, 0, (⟨#[]⟩ : ByteArray), 0, 7)) else (if 0 ≤ x1 then (if x1 < (x0.size : Int) then (if (wrap64 (bt x0 x1)) = 16 then (some (wrap64 ((wrap64 (Int.tdiv (wrap64 (bt x0 x1)) 16)) - 1), 0, 0, (⟨#[]⟩ : ByteArray), wrap64 (x1 + 1), 0)) else (if (wrap64 (bt x0 x1)) = 32 then (col_Get.j1 k x0 (wrap64 (bt x0 x1)) (wrap64 (x1 + 1)) 0 (wrap64 (bt x0 x1)) ((wrap64 (bt x0 x1)) == 32) (wrap64 ((wrap64 (Int.tdiv (wrap64 (bt x0 x1)) 16)) - 1)) 0 0 (⟨#[]⟩ : ByteArray)) else (col_Get.j1 k x0 (wrap64 (bt x0 x1)) (wrap64 (x1 + 1)) 0 (wrap64 (bt x0 x1)) ((wrap64 (bt x0 x1)) == 33) (wrap64 ((wrap64 (Int.tdiv (wrap64 (bt x0 x1)) 16)) - 1)) 0 0 (⟨#[]⟩ : ByteArray)))) else (none)) else (none)))
def col_Get.j1 : Nat → ByteArray → Int → Int → Int → Int → Bool → Int → Int → Int → ByteArray → Option (Int × Int × Int × ByteArray × Int × Int)
 | 0, _, _, _, _, _, _, _, _, _, _ => none
 | k + 1, x0, x7, x9, x10, x35, x38, x222000, x222001, x222002, x222003 => if x38 = true then (if x10 = 0 then (some (x222000, x222001, IntKind.u64.wrap (Int.tmod x7 16), x222003, x9, 0)) else (some (0, 0, 0, (⟨#[]⟩ : ByteArray), 0, x10))) else (if x35 = 48 then ((col_integer.f k x0 x9).bind fun bt222 => (if bt222.2.2 = 0 then (some (x222000, bt222.1, x222002, x222003, bt222.2.1, 0)) else (some (0, 0, 0, (⟨#[]⟩ : ByteArray), 0, bt222.2.2)))) else (if x35 = 64 then ((word_Get.f k x0 x9).bind fun bt225 => (if bt225.2.2 = 0 then (some (x222000, x222001, bt225.1, x222003, bt225.2.1, 0)) else (some (0, 0, 0, (⟨#[]⟩ : ByteArray), 0, bt225.2.2)))) else (if x35 = 80 then ((col_text.f k x0 x9).bind fun bt228 => (if bt228.2.2 = 0 then (some (x222000, x222001, x222002, bt228.1, bt228.2.1, 0)) else (some (0, 0, 0, (⟨#[]⟩ : ByteArray), 0, bt228.2.2)))) else (some (0, 0, 0, (⟨#[]⟩ : ByteArray), 0, 3)))))
end
def col_Get.f (k : Nat) (a0 : ByteArray) (a1 : Int) : Option (Int × Int × Int × ByteArray × Int × Int) := if a1 < 0 then (col_Get.j0 k a0 a1 true) else (col_Get.j0 k a0 a1 (decide (a1 > (a0.size : Int))))
theorem col_Get.mono_l : ∀ k, (∀ y0 y1 y2, LeO (col_Get.j0 k y0 y1 y2) (col_Get.j0 (k + 1) y0 y1 y2)) ∧ (∀ y0 y1 y2 y3 y4 y5 y6 y7 y8 y9, LeO (col_Get.j1 k y0 y1 y2 y3 y4 y5 y6 y7 y8 y9) (col_Get.j1 (k + 1) y0 y1 y2 y3 y4 y5 y6 y7 y8 y9))
 | 0 => ⟨fun _ _ _ r h => by simp [col_Get.j0] at h, fun _ _ _ _ _ _ _ _ _ _ r h => by simp [col_Get.j1] at h⟩
 | k + 1 => by
  obtain ⟨ih0, ih1⟩ := col_Get.mono_l k
  refine ⟨?_, ?_⟩
  ·intro y0 y1 y2
   unfold col_Get.j0
   repeat' first
   | (with_reducible exact ih0 _ _ _)
   | (with_reducible exact ih1 _ _ _ _ _ _ _ _ _ _)
   | (with_reducible exact col_integer.mono _ _ _)
   | (with_reducible exact col_text.mono _ _ _)
   | (with_reducible exact word_Get.mono _ _ _)
   | (with_reducible exact LeO.refl _)
   | (with_reducible exact LeO.none _)
   | (with_reducible refine LeO.ite ?_ ?_)
   | (with_reducible refine LeO.bind ?_ (fun _ => ?_))
   | exact ih0 _ _ _
   | exact ih1 _ _ _ _ _ _ _ _ _ _
   | exact col_integer.mono _ _ _
   | exact col_text.mono _ _ _
   | exact word_Get.mono _ _ _
   | exact LeO.none _
   | refine LeO.ite ?_ ?_
   | refine LeO.bind ?_ (fun _ => ?_)
  ·intro y0 y1 y2 y3 y4 y5 y6 y7 y8 y9
   unfold col_Get.j1
   repeat' first
   | (with_reducible exact ih0 _ _ _)
   | (with_reducible exact ih1 _ _ _ _ _ _ _ _ _ _)
   | (with_reducible exact col_integer.mono _ _ _)
   | (with_reducible exact col_text.mono _ _ _)
   | (with_reducible exact word_Get.mono _ _ _)
   | (with_reducible exact LeO.refl _)
   | (with_reducible exact LeO.none _)
   | (with_reducible refine LeO.ite ?_ ?_)
   | (with_reducible refine LeO.bind ?_ (fun _ => ?_))
   | exact ih0 _ _ _
   | exact ih1 _ _ _ _ _ _ _ _ _ _
   | exact col_integer.mono _ _ _
   | exact col_text.mono _ _ _
   | exact word_Get.mono _ _ _
   | exact LeO.none _
   | refine LeO.ite ?_ ?_
   | refine LeO.bind ?_ (fun _ => ?_)
theorem col_Get.mono : ∀ a0 a1 k, LeO (col_Get.f k a0 a1) (col_Get.f (k + 1) a0 a1) := by
 intro a0 a1 k
 obtain ⟨ih0, ih1⟩ := col_Get.mono_l k
 unfold col_Get.f
 repeat' first
   | (with_reducible exact ih0 _ _ _)
   | (with_reducible exact ih1 _ _ _ _ _ _ _ _ _ _)
   | (with_reducible exact col_integer.mono _ _ _)
   | (with_reducible exact col_text.mono _ _ _)
   | (with_reducible exact word_Get.mono _ _ _)
   | (with_reducible exact LeO.refl _)
   | (with_reducible exact LeO.none _)
   | (with_reducible refine LeO.ite ?_ ?_)
   | (with_reducible refine LeO.bind ?_ (fun _ => ?_))
   | exact ih0 _ _ _
   | exact ih1 _ _ _ _ _ _ _ _ _ _
   | exact col_integer.mono _ _ _
   | exact col_text.mono _ _ _
   | exact word_Get.mono _ _ _
   | exact LeO.none _
   | refine LeO.ite ?_ ?_
   | refine LeO.bind ?_ (fun _ => ?_)
set_option maxHeartbeats 8000000 in
set_option maxRecDepth 100000 in
theorem col_Get.calls (k : Nat) (a0 : ByteArray) (a1 : Int) (r1 : Int) (r2 : Int) (r3 : Int) (r4 : ByteArray) (r5 : Int) (r6 : Int) (w : World) (h : col_Get.f k a0 a1 = some (r1, r2, r3, r4, r5, r6)) :
  Calls Tryd.prog 57 #[.string a0, .int .i64 a1] w fun e w' => e = .returned (.tuple #[.agg #[.int .i64 r1, .int .i64 r2, .int .u64 r3, .string r4], .int .i64 r5, .int .i64 r6]) ∧ Below w.heap.size w w' := by
 have hu51 := Tryd.underlying51
 have HB := as_ (Below.refl w.heap.size w)
 have H : (if a1 < 0 then (col_Get.j0 k a0 a1 true) else (col_Get.j0 k a0 a1 (decide (a1 > (a0.size : Int))))) = some (r1, r2, r3, r4, r5, r6) := h
 clear h
 have HC3 := Aside0.mk H
 clear H
 go_enter Tryd.func57, Tryd.ntmps57
 go_upto_region 1 with (first | ((with_reducible refine gate_dst (N := 4) rfl ?_); (try (refine gate_guard (by rfl) ?_; dsimp only)); refine box_event ?hg (N := 4) ?hd (cs := #[.int .i64 0, .int .i64 0, .int .u64 0, .string (⟨#[]⟩ : ByteArray)]) (t := 51) ?hr ?_; (case hd => rfl); (case hg => rfl); (case hr => first | (go_simp; done) | (go_simp; rfl)); intro gb220 hg w4 hbox hb; have BK220 := as_ (hbox); have GW220 := gw hg bA; have GE220 := gw hg bA; replace HB := as_ (below_step bA hb); clear hb hbox hg))
 (try simp only [Act.put, List.setIfInBounds_toArray, List.set_cons_zero, List.set_cons_succ])
 go_cut [18] (fun v18 wc => ∃ (kq : Nat) (x18_2 : Bool), v18 = .bool x18_2 ∧ Aside0 (col_Get.j0 kq a0 a1 x18_2 = some (r1, r2, r3, r4, r5, r6)) ∧ Aside0 (kq ≤ k) ∧ Aside0 (wc.heap[gb220]? = some (.cells #[.int .i64 0, .int .i64 0, .int .u64 0, .string (⟨#[]⟩ : ByteArray)] 51 (0, 0))) ∧ Aside0 (Below w.heap.size w wc))
 case first =>
  have H := HC3.out
  clear HC3
  by_cases c5 : a1 < 0
  rotate_left
  ·rw [if_neg c5] at H
   have c5b0 : decide (a1 < 0) = false := decide_eq_false c5
   clear c5
   (first | rw [c5b0] | (simp only [i64_w, i32_w]; rw [c5b0]) | rw [c5b1] | skip)
   have H' := Aside0.mk H
   clear H
   go_wp2
   go_meet
   case rel => exact ⟨_, (decide (a1 > (a0.size : Int))), (by first | rfl | (simp; done) | (simp [*]; done)), H', ⟨by first | omega | exact Nat.le_refl _⟩, ⟨by refine bx ?_; exact BK220.out⟩, ⟨by repeat (first | (with_reducible first | exact HB.out | apply below_alloc | apply pw_below_drewN | apply below_drew1 | refine below_set ?_ GE220.out) | exact HB.out)⟩⟩
  rw [if_pos c5] at H
  have c5b0 : decide (a1 < 0) = true := decide_eq_true c5
  clear c5
  (first | rw [c5b0] | (simp only [i64_w, i32_w]; rw [c5b0]) | rw [c5b1] | skip)
  have H' := Aside0.mk H
  clear H
  go_wp2
  go_meet
  case rel => exact ⟨_, (true), (by first | rfl | (simp; done) | (simp [*]; done)), H', ⟨by first | omega | exact Nat.le_refl _⟩, ⟨by refine bx ?_; exact BK220.out⟩, ⟨by repeat (first | (with_reducible first | exact HB.out | apply below_alloc | apply pw_below_drewN | apply below_drew1 | refine below_set ?_ GE220.out) | exact HB.out)⟩⟩
 case rest =>
  clear HC3
  try clear p2
  try clear c5
  try clear c5b0
  try clear c5b1
  obtain ⟨kq, x18_2, rfl, HA, HJ2, BK220, HB⟩ := hcut
  cases kq with
  | zero => exact absurd HA.out (by simp [col_Get.j0])
  | succ kj2 =>
   have H := HA.out
   clear HA
   simp only [col_Get.j0] at H
   by_cases c6 : x18_2 = true
   ·subst c6
    have H1 : (some (0, 0, 0, (⟨#[]⟩ : ByteArray), 0, 4)) = some (r1, r2, r3, r4, r5, r6) := by rw [if_pos rfl] at H; exact H
    clear H
    have H := H1
    clear H1
    simp only [Option.some.injEq, Prod.mk.injEq] at H
    obtain ⟨rfl, rfl, rfl, rfl, rfl, rfl⟩ := H
    obtain ⟨hcz7_0, hcz7_1, hcz7_2, hcz7_3⟩ := zc4 BK220
    obtain ⟨hfz7_0, hfz7_1, hfz7_2, hfz7_3⟩ := zf4 BK220
    go_wp2
    refine bodyPost_ret (results_ctt rfl _ _ gb220 51 #[.int .i64 0, .int .i64 0, .int .u64 0, .string (⟨#[]⟩ : ByteArray)] (0, 0) _ rfl (by refine bx ?_; refine blk_put (cs := #[.int .i64 0, .int .i64 0, .int .u64 0, .string (⟨#[]⟩ : ByteArray)]) ?_ 3 _ rfl; refine bx ?_; refine blk_put (cs := #[.int .i64 0, .int .i64 0, .int .u64 0, .string (⟨#[]⟩ : ByteArray)]) ?_ 2 _ rfl; refine bx ?_; refine blk_put (cs := #[.int .i64 0, .int .i64 0, .int .u64 0, .string (⟨#[]⟩ : ByteArray)]) ?_ 1 _ rfl; refine bx ?_; refine blk_put (cs := #[.int .i64 0, .int .i64 0, .int .u64 0, .string (⟨#[]⟩ : ByteArray)]) ?_ 0 _ rfl; refine bx ?_; exact BK220.out) Tryd.underlying51 rfl (by kernel_rfl)) rfl ?_
    exact ⟨eW, by repeat (first | (with_reducible first | exact HB.out | apply below_alloc | apply pw_below_drewN | apply below_drew1 | refine below_set ?_ GE220.out) | exact HB.out)⟩
   replace c6 := Bool.eq_false_iff.mpr c6
   subst c6
   have H1 : (if a1 = (a0.size : Int) then (some (0, 0, 0, (⟨#[]⟩ : ByteArray), 0, 7)) else (if 0 ≤ a1 then (if a1 < (a0.size : Int) then (if (wrap64 (bt a0 a1)) = 16 then (some (wrap64 ((wrap64 (Int.tdiv (wrap64 (bt a0 a1)) 16)) - 1), 0, 0, (⟨#[]⟩ : ByteArray), wrap64 (a1 + 1), 0)) else (if (wrap64 (bt a0 a1)) = 32 then (col_Get.j1 kj2 a0 (wrap64 (bt a0 a1)) (wrap64 (a1 + 1)) 0 (wrap64 (bt a0 a1)) ((wrap64 (bt a0 a1)) == 32) (wrap64 ((wrap64 (Int.tdiv (wrap64 (bt a0 a1)) 16)) - 1)) 0 0 (⟨#[]⟩ : ByteArray)) else (col_Get.j1 kj2 a0 (wrap64 (bt a0 a1)) (wrap64 (a1 + 1)) 0 (wrap64 (bt a0 a1)) ((wrap64 (bt a0 a1)) == 33) (wrap64 ((wrap64 (Int.tdiv (wrap64 (bt a0 a1)) 16)) - 1)) 0 0 (⟨#[]⟩ : ByteArray)))) else (none)) else (none))) = some (r1, r2, r3, r4, r5, r6) := by rw [if_neg (show ¬ (false = true) by decide)] at H; exact H
   clear H
   have H := H1
   clear H1
   by_cases c8 : a1 = (a0.size : Int)
   ·rw [if_pos c8] at H
    have c8b0 : (a1 == (a0.size : Int)) = true := beq_iff_eq.mpr c8
    have c8b1 : (a1 != (a0.size : Int)) = false := bne_eq_false_iff_eq.mpr c8
    clear c8
    simp only [Option.some.injEq, Prod.mk.injEq] at H
    obtain ⟨rfl, rfl, rfl, rfl, rfl, rfl⟩ := H
    obtain ⟨hcz9_0, hcz9_1, hcz9_2, hcz9_3⟩ := zc4 BK220
    obtain ⟨hfz9_0, hfz9_1, hfz9_2, hfz9_3⟩ := zf4 BK220
    go_wp2
    refine bodyPost_ret (results_ctt rfl _ _ gb220 51 #[.int .i64 0, .int .i64 0, .int .u64 0, .string (⟨#[]⟩ : ByteArray)] (0, 0) _ rfl (by refine bx ?_; refine blk_put (cs := #[.int .i64 0, .int .i64 0, .int .u64 0, .string (⟨#[]⟩ : ByteArray)]) ?_ 3 _ rfl; refine bx ?_; refine blk_put (cs := #[.int .i64 0, .int .i64 0, .int .u64 0, .string (⟨#[]⟩ : ByteArray)]) ?_ 2 _ rfl; refine bx ?_; refine blk_put (cs := #[.int .i64 0, .int .i64 0, .int .u64 0, .string (⟨#[]⟩ : ByteArray)]) ?_ 1 _ rfl; refine bx ?_; refine blk_put (cs := #[.int .i64 0, .int .i64 0, .int .u64 0, .string (⟨#[]⟩ : ByteArray)]) ?_ 0 _ rfl; refine bx ?_; exact BK220.out) Tryd.underlying51 rfl (by kernel_rfl)) rfl ?_
    exact ⟨eW, by repeat (first | (with_reducible first | exact HB.out | apply below_alloc | apply pw_below_drewN | apply below_drew1 | refine below_set ?_ GE220.out) | exact HB.out)⟩
   rw [if_neg c8] at H
   have c8b0 : (a1 == (a0.size : Int)) = false := beq_eq_false_iff_ne.mpr c8
   have c8b1 : (a1 != (a0.size : Int)) = true := bne_iff_ne.mpr c8
   by_cases c10 : 0 ≤ a1
   rotate_left
   ·rw [if_neg c10] at H
    exact absurd H (by simp)
 
   rw [if_pos c10] at H
   have c10b0 : decide (0 ≤ a1) = true := decide_eq_true c10
   clear c10
   by_cases c11 : a1 < (a0.size : Int)
   rotate_left
   ·rw [if_neg c11] at H
    exact absurd H (by simp)
   rw [if_pos c11] at H
   have c11b0 : decide (a1 < (a0.size : Int)) = true := decide_eq_true c11
   clear c11
   by_cases c13 : (wrap64 (bt a0 a1)) = 16
   ·rw [if_pos c13] at H
    have c13b0 : ((wrap64 (bt a0 a1)) == 16) = true := beq_iff_eq.mpr c13
    have c13b1 : ((wrap64 (bt a0 a1)) != 16) = false := bne_eq_false_iff_eq.mpr c13
    clear c13
    simp only [Option.some.injEq, Prod.mk.injEq] at H
    obtain ⟨rfl, rfl, rfl, rfl, rfl, rfl⟩ := H
    have p12 : 0 ≤ (a1 : Int) := of_decide_eq_true aM
    have q12 : a1 < (a0.size : Int) := of_decide_eq_true aM
    have hx12 := bt_at a0 a1
    replace p12 := eq_true p12
    replace q12 := eq_true q12
    go_wp2_with (first | ((with_reducible refine gate_dst (N := 8) rfl ?_); (try (refine gate_guard (by rfl) ?_; dsimp only)); refine box_event ?hg (N := 8) ?hd (cs := #[.int .i64 0, .int .i64 0, .int .u64 0, .string (⟨#[]⟩ : ByteArray)]) (t := 51) ?hr ?_; (case hd => rfl); (case hg => rfl); (case hr => first | (go_simp; done) | (go_simp; rfl)); intro gb221 hg w14 hbox hb; have BK221 := as_ (hbox); have GW221 := gw hg bA; have GE221 := gw hg bA; have NB220_221 := as_ ((by rw [hg]; exact Nat.ne_of_lt (blk_lt (g := gb220) (o := .cells #[.int .i64 0, .int .i64 0, .int .u64 0, .string (⟨#[]⟩ : ByteArray)] 51 (0, 0)) (bk BK220)) : gb220 ≠ gb221)); have NB221_220 := as_ ((by rw [hg]; exact Nat.ne_of_gt (blk_lt (g := gb220) (o := .cells #[.int .i64 0, .int .i64 0, .int .u64 0, .string (⟨#[]⟩ : ByteArray)] 51 (0, 0)) (bk BK220)) : gb221 ≠ gb220)); replace BK220 := as_ (blk_below (g := gb220) (o := .cells #[.int .i64 0, .int .i64 0, .int .u64 0, .string (⟨#[]⟩ : ByteArray)] 51 (0, 0)) (bk BK220) hb); replace HB := as_ (below_step bA hb); clear hb hbox hg; have hnb15 := NB221_220.out; have hnc15 := NB220_221.out; obtain ⟨hcz16_0, hcz16_1, hcz16_2, hcz16_3⟩ := zc4 BK221; obtain ⟨hfz16_0, hfz16_1, hfz16_2, hfz16_3⟩ := zf4 BK221; obtain ⟨hcz17_0, hcz17_1, hcz17_2, hcz17_3⟩ := zc4 BK220; obtain ⟨hfz17_0, hfz17_1, hfz17_2, hfz17_3⟩ := zf4 BK220))
    refine bodyPost_ret (results_ctt rfl _ _ gb220 51 #[.int .i64 (wrap64 ((wrap64 (Int.tdiv (wrap64 (bt a0 a1)) 16)) - 1)), .int .i64 0, .int .u64 0, .string (⟨#[]⟩ : ByteArray)] (0, 0) _ rfl (by refine bx ?_; refine blk_put (cs := #[.int .i64 (wrap64 ((wrap64 (Int.tdiv (wrap64 (bt a0 a1)) 16)) - 1)), .int .i64 0, .int .u64 0, .string (⟨#[]⟩ : ByteArray)]) ?_ 3 _ rfl; refine bx ?_; refine blk_put (cs := #[.int .i64 (wrap64 ((wrap64 (Int.tdiv (wrap64 (bt a0 a1)) 16)) - 1)), .int .i64 0, .int .u64 0, .string (⟨#[]⟩ : ByteArray)]) ?_ 2 _ rfl; refine bx ?_; refine blk_put (cs := #[.int .i64 (wrap64 ((wrap64 (Int.tdiv (wrap64 (bt a0 a1)) 16)) - 1)), .int .i64 0, .int .u64 0, .string (⟨#[]⟩ : ByteArray)]) ?_ 1 _ rfl; refine bx ?_; refine blk_put (cs := #[.int .i64 0, .int .i64 0, .int .u64 0, .string (⟨#[]⟩ : ByteArray)]) ?_ 0 _ rfl; refine bx ?_; refine blk_far ?_ NB220_221.out _; refine bx ?_; refine blk_far ?_ NB220_221.out _; refine bx ?_; refine blk_far ?_ NB220_221.out _; refine bx ?_; refine blk_far ?_ NB220_221.out _; refine bx ?_; exact BK220.out) Tryd.underlying51 rfl (by kernel_rfl)) rfl ?_
    exact ⟨eW, by repeat (first | (with_reducible first | exact HB.out | apply below_alloc | apply pw_below_drewN | apply below_drew1 | refine below_set ?_ GE220.out | refine below_set ?_ GE221.out) | exact HB.out)⟩
   rw [if_neg c13] at H
   have c13b0 : ((wrap64 (bt a0 a1)) == 16) = false := beq_eq_false_iff_ne.mpr c13
   have c13b1 : ((wrap64 (bt a0 a1)) != 16) = true := bne_iff_ne.mpr c13
   have HC18 := Aside0.mk H
   clear H
   have p12 : 0 ≤ (a1 : Int) := of_decide_eq_true aM
   have q12 : a1 < (a0.size : Int) := of_decide_eq_true aM
   have hx12 := bt_at a0 a1
   replace p12 := eq_true p12
   replace q12 := eq_true q12
   go_upto_if 38 with (first | ((with_reducible refine gate_dst (N := 8) rfl ?_); (try (refine gate_guard (by rfl) ?_; dsimp only)); refine box_event ?hg (N := 8) ?hd (cs := #[.int .i64 0, .int .i64 0, .int .u64 0, .string (⟨#[]⟩ : ByteArray)]) (t := 51) ?hr ?_; (case hd => rfl); (case hg => rfl); (case hr => first | (go_simp; done) | (go_simp; rfl)); intro gb221 hg w19 hbox hb; have BK221 := as_ (hbox); have GW221 := gw hg bA; have GE221 := gw hg bA; have NB220_221 := as_ ((by rw [hg]; exact Nat.ne_of_lt (blk_lt (g := gb220) (o := .cells #[.int .i64 0, .int .i64 0, .int .u64 0, .string (⟨#[]⟩ : ByteArray)] 51 (0, 0)) (bk BK220)) : gb220 ≠ gb221)); have NB221_220 := as_ ((by rw [hg]; exact Nat.ne_of_gt (blk_lt (g := gb220) (o := .cells #[.int .i64 0, .int .i64 0, .int .u64 0, .string (⟨#[]⟩ : ByteArray)] 51 (0, 0)) (bk BK220)) : gb221 ≠ gb220)); replace BK220 := as_ (blk_below (g := gb220) (o := .cells #[.int .i64 0, .int .i64 0, .int .u64 0, .string (⟨#[]⟩ : ByteArray)] 51 (0, 0)) (bk BK220) hb); replace HB := as_ (below_step bA hb); clear hb hbox hg; have hnb20 := NB221_220.out; have hnc20 := NB220_221.out; obtain ⟨hcz21_0, hcz21_1, hcz21_2, hcz21_3⟩ := zc4 BK221; obtain ⟨hfz21_0, hfz21_1, hfz21_2, hfz21_3⟩ := zf4 BK221))
   (try simp only [Act.put, List.setIfInBounds_toArray, List.set_cons_zero, List.set_cons_succ])
   go_cut [38] (fun v38 wc => ∃ (kq : Nat) (x38_17 : Bool), v38 = .bool x38_17 ∧ Aside0 (col_Get.j1 kq a0 (wrap64 (bt a0 a1)) (wrap64 (a1 + 1)) 0 (wrap64 (bt a0 a1)) x38_17 (wrap64 ((wrap64 (Int.tdiv (wrap64 (bt a0 a1)) 16)) - 1)) 0 0 (⟨#[]⟩ : ByteArray) = some (r1, r2, r3, r4, r5, r6)) ∧ Aside0 (kq ≤ kj2) ∧ Aside0 (wc.heap[gb220]? = some (.cells #[.int .i64 0, .int .i64 0, .int .u64 0, .string (⟨#[]⟩ : ByteArray)] 51 (0, 0))) ∧ Aside0 (wc.heap[gb221]? = some (.cells #[.int .i64 (wrap64 ((wrap64 (Int.tdiv (wrap64 (bt a0 a1)) 16)) - 1)), .int .i64 0, .int .u64 0, .string (⟨#[]⟩ : ByteArray)] 51 (0, 0))) ∧ Aside0 (Below w.heap.size w wc))
   case first =>
    have H := HC18.out
    clear HC18
    by_cases c22 : (wrap64 (bt a0 a1)) = 32
    rotate_left
    ·rw [if_neg c22] at H
     have c22b0 : ((wrap64 (bt a0 a1)) == 32) = false := beq_eq_false_iff_ne.mpr c22
     have c22b1 : ((wrap64 (bt a0 a1)) != 32) = true := bne_iff_ne.mpr c22
     (first | rw [c22b0] | (simp only [i64_w, i32_w]; rw [c22b0]) | rw [c22b1] | skip)
     have H' := Aside0.mk H
     clear H
     go_wp2
     go_meet
     case rel => exact ⟨_, (((wrap64 (bt a0 a1)) == 33)), (by first | rfl | (simp; done) | (simp [*]; done)), H', ⟨by have := HJ2.out; first | omega | exact Nat.le_refl _⟩, ⟨by refine bx ?_; refine blk_far ?_ NB220_221.out _; refine bx ?_; refine blk_far ?_ NB220_221.out _; refine bx ?_; refine blk_far ?_ NB220_221.out _; refine bx ?_; refine blk_far ?_ NB220_221.out _; refine bx ?_; exact BK220.out⟩, ⟨by refine bx ?_; refine blk_put (cs := #[.int .i64 (wrap64 ((wrap64 (Int.tdiv (wrap64 (bt a0 a1)) 16)) - 1)), .int .i64 0, .int .u64 0, .string (⟨#[]⟩ : ByteArray)]) ?_ 3 _ rfl; refine bx ?_; refine blk_put (cs := #[.int .i64 (wrap64 ((wrap64 (Int.tdiv (wrap64 (bt a0 a1)) 16)) - 1)), .int .i64 0, .int .u64 0, .string (⟨#[]⟩ : ByteArray)]) ?_ 2 _ rfl; refine bx ?_; refine blk_put (cs := #[.int .i64 (wrap64 ((wrap64 (Int.tdiv (wrap64 (bt a0 a1)) 16)) - 1)), .int .i64 0, .int .u64 0, .string (⟨#[]⟩ : ByteArray)]) ?_ 1 _ rfl; refine bx ?_; refine blk_put (cs := #[.int .i64 0, .int .i64 0, .int .u64 0, .string (⟨#[]⟩ : ByteArray)]) ?_ 0 _ rfl; refine bx ?_; exact BK221.out⟩, ⟨by repeat (first | (with_reducible first | exact HB.out | apply below_alloc | apply pw_below_drewN | apply below_drew1 | refine below_set ?_ GE220.out | refine below_set ?_ GE221.out) | exact HB.out)⟩⟩
    rw [if_pos c22] at H
    have c22b0 : ((wrap64 (bt a0 a1)) == 32) = true := beq_iff_eq.mpr c22
    have c22b1 : ((wrap64 (bt a0 a1)) != 32) = false := bne_eq_false_iff_eq.mpr c22
    clear c22
    (first | rw [c22b0] | (simp only [i64_w, i32_w]; rw [c22b0]) | rw [c22b1] | skip)
    have H' := Aside0.mk H
    clear H
    go_wp2
    go_meet
    case rel => exact ⟨_, (((wrap64 (bt a0 a1)) == 32)), (by first | rfl | (simp; done) | (simp [*]; done)), H', ⟨by have := HJ2.out; first | omega | exact Nat.le_refl _⟩, ⟨by refine bx ?_; refine blk_far ?_ NB220_221.out _; refine bx ?_; refine blk_far ?_ NB220_221.out _; refine bx ?_; refine blk_far ?_ NB220_221.out _; refine bx ?_; refine blk_far ?_ NB220_221.out _; refine bx ?_; exact BK220.out⟩, ⟨by refine bx ?_; refine blk_put (cs := #[.int .i64 (wrap64 ((wrap64 (Int.tdiv (wrap64 (bt a0 a1)) 16)) - 1)), .int .i64 0, .int .u64 0, .string (⟨#[]⟩ : ByteArray)]) ?_ 3 _ rfl; refine bx ?_; refine blk_put (cs := #[.int .i64 (wrap64 ((wrap64 (Int.tdiv (wrap64 (bt a0 a1)) 16)) - 1)), .int .i64 0, .int .u64 0, .string (⟨#[]⟩ : ByteArray)]) ?_ 2 _ rfl; refine bx ?_; refine blk_put (cs := #[.int .i64 (wrap64 ((wrap64 (Int.tdiv (wrap64 (bt a0 a1)) 16)) - 1)), .int .i64 0, .int .u64 0, .string (⟨#[]⟩ : ByteArray)]) ?_ 1 _ rfl; refine bx ?_; refine blk_put (cs := #[.int .i64 0, .int .i64 0, .int .u64 0, .string (⟨#[]⟩ : ByteArray)]) ?_ 0 _ rfl; refine bx ?_; exact BK221.out⟩, ⟨by repeat (first | (with_reducible first | exact HB.out | apply below_alloc | apply pw_below_drewN | apply below_drew1 | refine below_set ?_ GE220.out | refine below_set ?_ GE221.out) | exact HB.out)⟩⟩
   case rest =>
    clear HC18
    try clear c1
    try clear p1
    try clear q1
    try clear hx1
    try clear c2
    try clear p2
    try clear c5
    try clear c5b0
    try clear c5b1
    try clear c6
    try clear p6
    try clear c8
    try clear c8b0
    try clear c8b1
    try clear c10
    try clear c10b0
    try clear c11
    try clear c11b0
    try clear p12
    try clear q12
    try clear hx12
    try clear c13
    try clear c13b0
    try clear c13b1
    try clear c15
    try clear c20
    try clear c22
    try clear c22b0
    try clear c22b1
    try clear hcz16_0
    try clear hcz16_1
    try clear hcz16_2
    try clear hcz16_3
    try clear hcz17_0
    try clear hcz17_1
    try clear hcz17_2
    try clear hcz17_3
    try clear hcz21_0
    try clear hcz21_1
    try clear hcz21_2
    try clear hcz21_3
    try clear hcz7_0
    try clear hcz7_1
    try clear hcz7_2
    try clear hcz7_3
    try clear hcz9_0
    try clear hcz9_1
    try clear hcz9_2
    try clear hcz9_3
    try clear hfz16_0
    try clear hfz16_1
    try clear hfz16_2
    try clear hfz16_3
    try clear hfz17_0
    try clear hfz17_1
    try clear hfz17_2
    try clear hfz17_3
    try clear hfz21_0
    try clear hfz21_1
    try clear hfz21_2
    try clear hfz21_3
    try clear hfz7_0
    try clear hfz7_1
    try clear hfz7_2
    try clear hfz7_3
    try clear hfz9_0
    try clear hfz9_1
    try clear hfz9_2
    try clear hfz9_3
    try clear p12
    try clear p2
    try clear q12
    obtain ⟨kq, x38_17, rfl, HA, HJ17, BK220, BK221, HB⟩ := hcut
    cases kq with
    | zero => exact absurd HA.out (by simp [col_Get.j1])
    | succ kj17 =>
     have H := HA.out
     clear HA
     simp only [col_Get.j1] at H
     by_cases c23 : x38_17 = true
     ·subst c23
      have H1 : (if 0 = 0 then (some ((wrap64 ((wrap64 (Int.tdiv (wrap64 (bt a0 a1)) 16)) - 1)), 0, IntKind.u64.wrap (Int.tmod (wrap64 (bt a0 a1)) 16), (⟨#[]⟩ : ByteArray), (wrap64 (a1 + 1)), 0)) else (some (0, 0, 0, (⟨#[]⟩ : ByteArray), 0, 0))) = some (r1, r2, r3, r4, r5, r6) := by rw [if_pos rfl] at H; exact H
      clear H
      have H := H1
      clear H1
      by_cases c24 : 0 = 0
      rotate_left
      ·exact absurd rfl c24
      rw [if_pos c24] at H
      have c24b0 : (0 == 0) = true := beq_iff_eq.mpr c24
      have c24b1 : (0 != 0) = false := bne_eq_false_iff_eq.mpr c24
      clear c24
      simp only [Option.some.injEq, Prod.mk.injEq] at H
      obtain ⟨rfl, rfl, rfl, rfl, rfl, rfl⟩ := H
      have hnb25 := NB221_220.out
      have hnc25 := NB220_221.out
      obtain ⟨hcz26_0, hcz26_1, hcz26_2, hcz26_3⟩ := zc4 BK221
      obtain ⟨hfz26_0, hfz26_1, hfz26_2, hfz26_3⟩ := zf4 BK221
      obtain ⟨hcz27_0, hcz27_1, hcz27_2, hcz27_3⟩ := zc4 BK220
      obtain ⟨hfz27_0, hfz27_1, hfz27_2, hfz27_3⟩ := zf4 BK220
      go_wp2
      refine bodyPost_ret (results_ctt rfl _ _ gb220 51 #[.int .i64 (wrap64 ((wrap64 (Int.tdiv (wrap64 (bt a0 a1)) 16)) - 1)), .int .i64 0, .int .u64 (IntKind.u64.wrap (Int.tmod (wrap64 (bt a0 a1)) 16)), .string (⟨#[]⟩ : ByteArray)] (0, 0) _ rfl (by refine bx ?_; refine blk_put (cs := #[.int .i64 (wrap64 ((wrap64 (Int.tdiv (wrap64 (bt a0 a1)) 16)) - 1)), .int .i64 0, .int .u64 (IntKind.u64.wrap (Int.tmod (wrap64 (bt a0 a1)) 16)), .string (⟨#[]⟩ : ByteArray)]) ?_ 3 _ rfl; refine bx ?_; refine blk_put (cs := #[.int .i64 (wrap64 ((wrap64 (Int.tdiv (wrap64 (bt a0 a1)) 16)) - 1)), .int .i64 0, .int .u64 0, .string (⟨#[]⟩ : ByteArray)]) ?_ 2 _ rfl; refine bx ?_; refine blk_put (cs := #[.int .i64 (wrap64 ((wrap64 (Int.tdiv (wrap64 (bt a0 a1)) 16)) - 1)), .int .i64 0, .int .u64 0, .string (⟨#[]⟩ : ByteArray)]) ?_ 1 _ rfl; refine bx ?_; refine blk_put (cs := #[.int .i64 0, .int .i64 0, .int .u64 0, .string (⟨#[]⟩ : ByteArray)]) ?_ 0 _ rfl; refine bx ?_; refine blk_far ?_ NB220_221.out _; refine bx ?_; exact BK220.out) Tryd.underlying51 rfl (by kernel_rfl)) rfl ?_
      exact ⟨eW, by repeat (first | (with_reducible first | exact HB.out | apply below_alloc | apply pw_below_drewN | apply below_drew1 | refine below_set ?_ GE220.out | refine below_set ?_ GE221.out) | exact HB.out)⟩
     replace c23 := Bool.eq_false_iff.mpr c23
     subst c23
     have H1 : (if (wrap64 (bt a0 a1)) = 48 then ((col_integer.f kj17 a0 (wrap64 (a1 + 1))).bind fun bt222 => (if bt222.2.2 = 0 then (some ((wrap64 ((wrap64 (Int.tdiv (wrap64 (bt a0 a1)) 16)) - 1)), bt222.1, 0, (⟨#[]⟩ : ByteArray), bt222.2.1, 0)) else (some (0, 0, 0, (⟨#[]⟩ : ByteArray), 0, bt222.2.2)))) else (if (wrap64 (bt a0 a1)) = 64 then ((word_Get.f kj17 a0 (wrap64 (a1 + 1))).bind fun bt225 => (if bt225.2.2 = 0 then (some ((wrap64 ((wrap64 (Int.tdiv (wrap64 (bt a0 a1)) 16)) - 1)), 0, bt225.1, (⟨#[]⟩ : ByteArray), bt225.2.1, 0)) else (some (0, 0, 0, (⟨#[]⟩ : ByteArray), 0, bt225.2.2)))) else (if (wrap64 (bt a0 a1)) = 80 then ((col_text.f kj17 a0 (wrap64 (a1 + 1))).bind fun bt228 => (if bt228.2.2 = 0 then (some ((wrap64 ((wrap64 (Int.tdiv (wrap64 (bt a0 a1)) 16)) - 1)), 0, 0, bt228.1, bt228.2.1, 0)) else (some (0, 0, 0, (⟨#[]⟩ : ByteArray), 0, bt228.2.2)))) else (some (0, 0, 0, (⟨#[]⟩ : ByteArray), 0, 3))))) = some (r1, r2, r3, r4, r5, r6) := by rw [if_neg (show ¬ (false = true) by decide)] at H; exact H
     clear H
     have H := H1
     clear H1
     by_cases c31 : (wrap64 (bt a0 a1)) = 48
     ·rw [if_pos c31] at H
      have c31b0 : ((wrap64 (bt a0 a1)) == 48) = true := beq_iff_eq.mpr c31
      have c31b1 : ((wrap64 (bt a0 a1)) != 48) = false := bne_eq_false_iff_eq.mpr c31
      clear c31
      replace H := bM H
      obtain ⟨⟨t222, t223, t224⟩, A320, H⟩ := H
      replace H : (if t224 = 0 then (some ((wrap64 ((wrap64 (Int.tdiv (wrap64 (bt a0 a1)) 16)) - 1)), t222, 0, (⟨#[]⟩ : ByteArray), t223, 0)) else (some (0, 0, 0, (⟨#[]⟩ : ByteArray), 0, t224))) = some (r1, r2, r3, r4, r5, r6) := H
      have A32 := Aside0.mk A320
      clear A320
      by_cases c33 : t224 = 0
      rotate_left
      ·rw [if_neg c33] at H
       have c33b0 : (t224 == 0) = false := beq_eq_false_iff_ne.mpr c33
       have c33b1 : (t224 != 0) = true := bne_iff_ne.mpr c33
       simp only [Option.some.injEq, Prod.mk.injEq] at H
       obtain ⟨rfl, rfl, rfl, rfl, rfl, rfl⟩ := H
       go_wp2_with (first | ((with_reducible refine gate_callee (f := 68) rfl ?_); refine goesL_ (some 50) rfl rfl Tryd.func68 (by kernel_rfl) rfl #[.string a0, .int .i64 (wrap64 (a1 + 1))] rfl aO ?_; (first | (with_reducible refine (col_integer.calls kj17 a0 (wrap64 (a1 + 1)) t222 t223 t224 _ A32.out).mono ?_) | (with_reducible refine (col_integer.calls kj17 a0 (a1 + 1) t222 t223 t224 _ (by have e_ := A32.out; rwa [(by unfold wrap64; omega : wrap64 (a1 + 1) = (a1 + 1))] at e_)).mono ?_)); rintro e w' ⟨rfl, ⟨nd, rfl⟩⟩; refine ⟨_, rfl, ?_⟩; (try (rw [drewN_self wc]; generalize hq_ : World.drewN wc _ = wc; have n0_ : Aside0 (wc.heap[gb220]? = some (.cells #[.int .i64 0, .int .i64 0, .int .u64 0, .string (⟨#[]⟩ : ByteArray)] 51 (0, 0))) := ⟨by rw [← hq_]; exact (bk BK220)⟩; have n1_ : Aside0 (wc.heap[gb221]? = some (.cells #[.int .i64 (wrap64 ((wrap64 (Int.tdiv (wrap64 (bt a0 a1)) 16)) - 1)), .int .i64 0, .int .u64 0, .string (⟨#[]⟩ : ByteArray)] 51 (0, 0))) := ⟨by rw [← hq_]; exact (bk BK221)⟩; have n2_ : Aside0 (Below w.heap.size w wc) := ⟨by rw [← hq_]; exact bA⟩; clear BK220 BK221 HB hq_; have BK220 := n0_; have BK221 := n1_; have HB := n2_; clear n0_ n1_ n2_)); have hnb37 := NB221_220.out; have hnc37 := NB220_221.out; obtain ⟨hcz38_0, hcz38_1, hcz38_2, hcz38_3⟩ := zc4 BK221; obtain ⟨hfz38_0, hfz38_1, hfz38_2, hfz38_3⟩ := zf4 BK221; obtain ⟨hcz39_0, hcz39_1, hcz39_2, hcz39_3⟩ := zc4 BK220; obtain ⟨hfz39_0, hfz39_1, hfz39_2, hfz39_3⟩ := zf4 BK220))
       refine bodyPost_ret (results_ctt rfl _ _ gb220 51 #[.int .i64 0, .int .i64 0, .int .u64 0, .string (⟨#[]⟩ : ByteArray)] (0, 0) _ rfl (by refine bx ?_; refine blk_put (cs := #[.int .i64 0, .int .i64 0, .int .u64 0, .string (⟨#[]⟩ : ByteArray)]) ?_ 3 _ rfl; refine bx ?_; refine blk_put (cs := #[.int .i64 0, .int .i64 0, .int .u64 0, .string (⟨#[]⟩ : ByteArray)]) ?_ 2 _ rfl; refine bx ?_; refine blk_put (cs := #[.int .i64 0, .int .i64 0, .int .u64 0, .string (⟨#[]⟩ : ByteArray)]) ?_ 1 _ rfl; refine bx ?_; refine blk_put (cs := #[.int .i64 0, .int .i64 0, .int .u64 0, .string (⟨#[]⟩ : ByteArray)]) ?_ 0 _ rfl; refine bx ?_; refine blk_far ?_ NB220_221.out _; refine bx ?_; exact BK220.out) Tryd.underlying51 rfl (by kernel_rfl)) rfl ?_
       exact ⟨eW, by repeat (first | (with_reducible first | exact HB.out | apply below_alloc | apply pw_below_drewN | apply below_drew1 | refine below_set ?_ GE220.out | refine below_set ?_ GE221.out) | exact HB.out)⟩
      rw [if_pos c33] at H
      have c33b0 : (t224 == 0) = true := beq_iff_eq.mpr c33
      have c33b1 : (t224 != 0) = false := bne_eq_false_iff_eq.mpr c33
      clear c33
      simp only [Option.some.injEq, Prod.mk.injEq] at H
      obtain ⟨rfl, rfl, rfl, rfl, rfl, rfl⟩ := H
      go_wp2_with (first | ((with_reducible refine gate_callee (f := 68) rfl ?_); refine goesL_ (some 50) rfl rfl Tryd.func68 (by kernel_rfl) rfl #[.string a0, .int .i64 (wrap64 (a1 + 1))] rfl aO ?_; (first | (with_reducible refine (col_integer.calls kj17 a0 (wrap64 (a1 + 1)) t222 t223 t224 _ A32.out).mono ?_) | (with_reducible refine (col_integer.calls kj17 a0 (a1 + 1) t222 t223 t224 _ (by have e_ := A32.out; rwa [(by unfold wrap64; omega : wrap64 (a1 + 1) = (a1 + 1))] at e_)).mono ?_)); rintro e w' ⟨rfl, ⟨nd, rfl⟩⟩; refine ⟨_, rfl, ?_⟩; (try (rw [drewN_self wc]; generalize hq_ : World.drewN wc _ = wc; have n0_ : Aside0 (wc.heap[gb220]? = some (.cells #[.int .i64 0, .int .i64 0, .int .u64 0, .string (⟨#[]⟩ : ByteArray)] 51 (0, 0))) := ⟨by rw [← hq_]; exact (bk BK220)⟩; have n1_ : Aside0 (wc.heap[gb221]? = some (.cells #[.int .i64 (wrap64 ((wrap64 (Int.tdiv (wrap64 (bt a0 a1)) 16)) - 1)), .int .i64 0, .int .u64 0, .string (⟨#[]⟩ : ByteArray)] 51 (0, 0))) := ⟨by rw [← hq_]; exact (bk BK221)⟩; have n2_ : Aside0 (Below w.heap.size w wc) := ⟨by rw [← hq_]; exact bA⟩; clear BK220 BK221 HB hq_; have BK220 := n0_; have BK221 := n1_; have HB := n2_; clear n0_ n1_ n2_)); have hnb34 := NB221_220.out; have hnc34 := NB220_221.out; obtain ⟨hcz35_0, hcz35_1, hcz35_2, hcz35_3⟩ := zc4 BK221; obtain ⟨hfz35_0, hfz35_1, hfz35_2, hfz35_3⟩ := zf4 BK221; obtain ⟨hcz36_0, hcz36_1, hcz36_2, hcz36_3⟩ := zc4 BK220; obtain ⟨hfz36_0, hfz36_1, hfz36_2, hfz36_3⟩ := zf4 BK220))
      refine bodyPost_ret (results_ctt rfl _ _ gb220 51 #[.int .i64 (wrap64 ((wrap64 (Int.tdiv (wrap64 (bt a0 a1)) 16)) - 1)), .int .i64 t222, .int .u64 0, .string (⟨#[]⟩ : ByteArray)] (0, 0) _ rfl (by refine bx ?_; refine blk_put (cs := #[.int .i64 (wrap64 ((wrap64 (Int.tdiv (wrap64 (bt a0 a1)) 16)) - 1)), .int .i64 t222, .int .u64 0, .string (⟨#[]⟩ : ByteArray)]) ?_ 3 _ rfl; refine bx ?_; refine blk_put (cs := #[.int .i64 (wrap64 ((wrap64 (Int.tdiv (wrap64 (bt a0 a1)) 16)) - 1)), .int .i64 t222, .int .u64 0, .string (⟨#[]⟩ : ByteArray)]) ?_ 2 _ rfl; refine bx ?_; refine blk_put (cs := #[.int .i64 (wrap64 ((wrap64 (Int.tdiv (wrap64 (bt a0 a1)) 16)) - 1)), .int .i64 0, .int .u64 0, .string (⟨#[]⟩ : ByteArray)]) ?_ 1 _ rfl; refine bx ?_; refine blk_put (cs := #[.int .i64 0, .int .i64 0, .int .u64 0, .string (⟨#[]⟩ : ByteArray)]) ?_ 0 _ rfl; refine bx ?_; refine blk_far ?_ NB220_221.out _; refine bx ?_; exact BK220.out) Tryd.underlying51 rfl (by kernel_rfl)) rfl ?_
      exact ⟨eW, by repeat (first | (with_reducible first | exact HB.out | apply below_alloc | apply pw_below_drewN | apply below_drew1 | refine below_set ?_ GE220.out | refine below_set ?_ GE221.out) | exact HB.out)⟩
     rw [if_neg c31] at H
     have c31b0 : ((wrap64 (bt a0 a1)) == 48) = false := beq_eq_false_iff_ne.mpr c31
     have c31b1 : ((wrap64 (bt a0 a1)) != 48) = true := bne_iff_ne.mpr c31
     by_cases c40 : (wrap64 (bt a0 a1)) = 64
     ·rw [if_pos c40] at H
      have c40b0 : ((wrap64 (bt a0 a1)) == 64) = true := beq_iff_eq.mpr c40
      have c40b1 : ((wrap64 (bt a0 a1)) != 64) = false := bne_eq_false_iff_eq.mpr c40
      clear c40
      replace H := bM H
      obtain ⟨⟨t225, t226, t227⟩, A410, H⟩ := H
      replace H : (if t227 = 0 then (some ((wrap64 ((wrap64 (Int.tdiv (wrap64 (bt a0 a1)) 16)) - 1)), 0, t225, (⟨#[]⟩ : ByteArray), t226, 0)) else (some (0, 0, 0, (⟨#[]⟩ : ByteArray), 0, t227))) = some (r1, r2, r3, r4, r5, r6) := H
      have A41 := Aside0.mk A410
      clear A410
      by_cases c42 : t227 = 0
      rotate_left
      ·rw [if_neg c42] at H
       have c42b0 : (t227 == 0) = false := beq_eq_false_iff_ne.mpr c42
       have c42b1 : (t227 != 0) = true := bne_iff_ne.mpr c42
       simp only [Option.some.injEq, Prod.mk.injEq] at H
       obtain ⟨rfl, rfl, rfl, rfl, rfl, rfl⟩ := H
       go_wp2_with (first | ((with_reducible refine gate_callee (f := 69) rfl ?_); refine goesL_ (some 60) rfl rfl Tryd.func69 (by kernel_rfl) rfl #[.string a0, .int .i64 (wrap64 (a1 + 1))] rfl aO ?_; (first | (with_reducible refine (word_Get.calls kj17 a0 (wrap64 (a1 + 1)) t225 t226 t227 _ A41.out).mono ?_) | (with_reducible refine (word_Get.calls kj17 a0 (a1 + 1) t225 t226 t227 _ (by have e_ := A41.out; rwa [(by unfold wrap64; omega : wrap64 (a1 + 1) = (a1 + 1))] at e_)).mono ?_)); rintro e w47 ⟨rfl, hb⟩; refine ⟨_, rfl, ?_⟩; replace BK220 := as_ (blk_below (g := gb220) (o := .cells #[.int .i64 0, .int .i64 0, .int .u64 0, .string (⟨#[]⟩ : ByteArray)] 51 (0, 0)) (bk BK220) hb); replace BK221 := as_ (blk_below (g := gb221) (o := .cells #[.int .i64 (wrap64 ((wrap64 (Int.tdiv (wrap64 (bt a0 a1)) 16)) - 1)), .int .i64 0, .int .u64 0, .string (⟨#[]⟩ : ByteArray)] 51 (0, 0)) (bk BK221) hb); replace HB := as_ (below_step bA hb); (try clear hb); (try clear hb2); (try clear hk); (try clear hi); have hnb48 := NB221_220.out; have hnc48 := NB220_221.out; obtain ⟨hcz49_0, hcz49_1, hcz49_2, hcz49_3⟩ := zc4 BK221; obtain ⟨hfz49_0, hfz49_1, hfz49_2, hfz49_3⟩ := zf4 BK221; obtain ⟨hcz50_0, hcz50_1, hcz50_2, hcz50_3⟩ := zc4 BK220; obtain ⟨hfz50_0, hfz50_1, hfz50_2, hfz50_3⟩ := zf4 BK220))
       refine bodyPost_ret (results_ctt rfl _ _ gb220 51 #[.int .i64 0, .int .i64 0, .int .u64 0, .string (⟨#[]⟩ : ByteArray)] (0, 0) _ rfl (by refine bx ?_; refine blk_put (cs := #[.int .i64 0, .int .i64 0, .int .u64 0, .string (⟨#[]⟩ : ByteArray)]) ?_ 3 _ rfl; refine bx ?_; refine blk_put (cs := #[.int .i64 0, .int .i64 0, .int .u64 0, .string (⟨#[]⟩ : ByteArray)]) ?_ 2 _ rfl; refine bx ?_; refine blk_put (cs := #[.int .i64 0, .int .i64 0, .int .u64 0, .string (⟨#[]⟩ : ByteArray)]) ?_ 1 _ rfl; refine bx ?_; refine blk_put (cs := #[.int .i64 0, .int .i64 0, .int .u64 0, .string (⟨#[]⟩ : ByteArray)]) ?_ 0 _ rfl; refine bx ?_; refine blk_far ?_ NB220_221.out _; refine bx ?_; exact BK220.out) Tryd.underlying51 rfl (by kernel_rfl)) rfl ?_
       exact ⟨eW, by repeat (first | (with_reducible first | exact HB.out | apply below_alloc | apply pw_below_drewN | apply below_drew1 | refine below_set ?_ GE220.out | refine below_set ?_ GE221.out) | exact HB.out)⟩
      rw [if_pos c42] at H
      have c42b0 : (t227 == 0) = true := beq_iff_eq.mpr c42
      have c42b1 : (t227 != 0) = false := bne_eq_false_iff_eq.mpr c42
      clear c42
      simp only [Option.some.injEq, Prod.mk.injEq] at H
      obtain ⟨rfl, rfl, rfl, rfl, rfl, rfl⟩ := H
      go_wp2_with (first | ((with_reducible refine gate_callee (f := 69) rfl ?_); refine goesL_ (some 60) rfl rfl Tryd.func69 (by kernel_rfl) rfl #[.string a0, .int .i64 (wrap64 (a1 + 1))] rfl aO ?_; (first | (with_reducible refine (word_Get.calls kj17 a0 (wrap64 (a1 + 1)) t225 t226 t227 _ A41.out).mono ?_) | (with_reducible refine (word_Get.calls kj17 a0 (a1 + 1) t225 t226 t227 _ (by have e_ := A41.out; rwa [(by unfold wrap64; omega : wrap64 (a1 + 1) = (a1 + 1))] at e_)).mono ?_)); rintro e w43 ⟨rfl, hb⟩; refine ⟨_, rfl, ?_⟩; replace BK220 := as_ (blk_below (g := gb220) (o := .cells #[.int .i64 0, .int .i64 0, .int .u64 0, .string (⟨#[]⟩ : ByteArray)] 51 (0, 0)) (bk BK220) hb); replace BK221 := as_ (blk_below (g := gb221) (o := .cells #[.int .i64 (wrap64 ((wrap64 (Int.tdiv (wrap64 (bt a0 a1)) 16)) - 1)), .int .i64 0, .int .u64 0, .string (⟨#[]⟩ : ByteArray)] 51 (0, 0)) (bk BK221) hb); replace HB := as_ (below_step bA hb); (try clear hb); (try clear hb2); (try clear hk); (try clear hi); have hnb44 := NB221_220.out; have hnc44 := NB220_221.out; obtain ⟨hcz45_0, hcz45_1, hcz45_2, hcz45_3⟩ := zc4 BK221; obtain ⟨hfz45_0, hfz45_1, hfz45_2, hfz45_3⟩ := zf4 BK221; obtain ⟨hcz46_0, hcz46_1, hcz46_2, hcz46_3⟩ := zc4 BK220; obtain ⟨hfz46_0, hfz46_1, hfz46_2, hfz46_3⟩ := zf4 BK220))
      refine bodyPost_ret (results_ctt rfl _ _ gb220 51 #[.int .i64 (wrap64 ((wrap64 (Int.tdiv (wrap64 (bt a0 a1)) 16)) - 1)), .int .i64 0, .int .u64 t225, .string (⟨#[]⟩ : ByteArray)] (0, 0) _ rfl (by refine bx ?_; refine blk_put (cs := #[.int .i64 (wrap64 ((wrap64 (Int.tdiv (wrap64 (bt a0 a1)) 16)) - 1)), .int .i64 0, .int .u64 t225, .string (⟨#[]⟩ : ByteArray)]) ?_ 3 _ rfl; refine bx ?_; refine blk_put (cs := #[.int .i64 (wrap64 ((wrap64 (Int.tdiv (wrap64 (bt a0 a1)) 16)) - 1)), .int .i64 0, .int .u64 0, .string (⟨#[]⟩ : ByteArray)]) ?_ 2 _ rfl; refine bx ?_; refine blk_put (cs := #[.int .i64 (wrap64 ((wrap64 (Int.tdiv (wrap64 (bt a0 a1)) 16)) - 1)), .int .i64 0, .int .u64 0, .string (⟨#[]⟩ : ByteArray)]) ?_ 1 _ rfl; refine bx ?_; refine blk_put (cs := #[.int .i64 0, .int .i64 0, .int .u64 0, .string (⟨#[]⟩ : ByteArray)]) ?_ 0 _ rfl; refine bx ?_; refine blk_far ?_ NB220_221.out _; refine bx ?_; exact BK220.out) Tryd.underlying51 rfl (by kernel_rfl)) rfl ?_
      exact ⟨eW, by repeat (first | (with_reducible first | exact HB.out | apply below_alloc | apply pw_below_drewN | apply below_drew1 | refine below_set ?_ GE220.out | refine below_set ?_ GE221.out) | exact HB.out)⟩
     rw [if_neg c40] at H
     have c40b0 : ((wrap64 (bt a0 a1)) == 64) = false := beq_eq_false_iff_ne.mpr c40
     have c40b1 : ((wrap64 (bt a0 a1)) != 64) = true := bne_iff_ne.mpr c40
     by_cases c51 : (wrap64 (bt a0 a1)) = 80
     rotate_left
     ·rw [if_neg c51] at H
      have c51b0 : ((wrap64 (bt a0 a1)) == 80) = false := beq_eq_false_iff_ne.mpr c51
      have c51b1 : ((wrap64 (bt a0 a1)) != 80) = true := bne_iff_ne.mpr c51
      simp only [Option.some.injEq, Prod.mk.injEq] at H
      obtain ⟨rfl, rfl, rfl, rfl, rfl, rfl⟩ := H
      have hnb62 := NB220_221.out
      have hnc62 := NB221_220.out
      obtain ⟨hcz63_0, hcz63_1, hcz63_2, hcz63_3⟩ := zc4 BK220
      obtain ⟨hfz63_0, hfz63_1, hfz63_2, hfz63_3⟩ := zf4 BK220
      go_wp2
      refine bodyPost_ret (results_ctt rfl _ _ gb220 51 #[.int .i64 0, .int .i64 0, .int .u64 0, .string (⟨#[]⟩ : ByteArray)] (0, 0) _ rfl (by refine bx ?_; refine blk_put (cs := #[.int .i64 0, .int .i64 0, .int .u64 0, .string (⟨#[]⟩ : ByteArray)]) ?_ 3 _ rfl; refine bx ?_; refine blk_put (cs := #[.int .i64 0, .int .i64 0, .int .u64 0, .string (⟨#[]⟩ : ByteArray)]) ?_ 2 _ rfl; refine bx ?_; refine blk_put (cs := #[.int .i64 0, .int .i64 0, .int .u64 0, .string (⟨#[]⟩ : ByteArray)]) ?_ 1 _ rfl; refine bx ?_; refine blk_put (cs := #[.int .i64 0, .int .i64 0, .int .u64 0, .string (⟨#[]⟩ : ByteArray)]) ?_ 0 _ rfl; refine bx ?_; exact BK220.out) Tryd.underlying51 rfl (by kernel_rfl)) rfl ?_
      exact ⟨eW, by repeat (first | (with_reducible first | exact HB.out | apply below_alloc | apply pw_below_drewN | apply below_drew1 | refine below_set ?_ GE220.out | refine below_set ?_ GE221.out) | exact HB.out)⟩
     rw [if_pos c51] at H
     have c51b0 : ((wrap64 (bt a0 a1)) == 80) = true := beq_iff_eq.mpr c51
     have c51b1 : ((wrap64 (bt a0 a1)) != 80) = false := bne_eq_false_iff_eq.mpr c51
     clear c51
     replace H := bM H
     obtain ⟨⟨t228, t229, t230⟩, A520, H⟩ := H
     replace H : (if t230 = 0 then (some ((wrap64 ((wrap64 (Int.tdiv (wrap64 (bt a0 a1)) 16)) - 1)), 0, 0, t228, t229, 0)) else (some (0, 0, 0, (⟨#[]⟩ : ByteArray), 0, t230))) = some (r1, r2, r3, r4, r5, r6) := H
     have A52 := Aside0.mk A520
     clear A520
     by_cases c53 : t230 = 0
     rotate_left
     ·rw [if_neg c53] at H
      have c53b0 : (t230 == 0) = false := beq_eq_false_iff_ne.mpr c53
      have c53b1 : (t230 != 0) = true := bne_iff_ne.mpr c53
      simp only [Option.some.injEq, Prod.mk.injEq] at H
      obtain ⟨rfl, rfl, rfl, rfl, rfl, rfl⟩ := H
      go_wp2_with (first | ((with_reducible refine gate_callee (f := 70) rfl ?_); refine goesL_ (some 70) rfl rfl Tryd.func70 (by kernel_rfl) rfl #[.string a0, .int .i64 (wrap64 (a1 + 1))] rfl aO ?_; (first | (with_reducible refine (col_text.calls kj17 a0 (wrap64 (a1 + 1)) t228 t229 t230 _ A52.out).mono ?_) | (with_reducible refine (col_text.calls kj17 a0 (a1 + 1) t228 t229 t230 _ (by have e_ := A52.out; rwa [(by unfold wrap64; omega : wrap64 (a1 + 1) = (a1 + 1))] at e_)).mono ?_)); rintro e w58 ⟨rfl, hb⟩; refine ⟨_, rfl, ?_⟩; replace BK220 := as_ (blk_below (g := gb220) (o := .cells #[.int .i64 0, .int .i64 0, .int .u64 0, .string (⟨#[]⟩ : ByteArray)] 51 (0, 0)) (bk BK220) hb); replace BK221 := as_ (blk_below (g := gb221) (o := .cells #[.int .i64 (wrap64 ((wrap64 (Int.tdiv (wrap64 (bt a0 a1)) 16)) - 1)), .int .i64 0, .int .u64 0, .string (⟨#[]⟩ : ByteArray)] 51 (0, 0)) (bk BK221) hb); replace HB := as_ (below_step bA hb); (try clear hb); (try clear hb2); (try clear hk); (try clear hi); have hnb59 := NB221_220.out; have hnc59 := NB220_221.out; obtain ⟨hcz60_0, hcz60_1, hcz60_2, hcz60_3⟩ := zc4 BK221; obtain ⟨hfz60_0, hfz60_1, hfz60_2, hfz60_3⟩ := zf4 BK221; obtain ⟨hcz61_0, hcz61_1, hcz61_2, hcz61_3⟩ := zc4 BK220; obtain ⟨hfz61_0, hfz61_1, hfz61_2, hfz61_3⟩ := zf4 BK220))
      refine bodyPost_ret (results_ctt rfl _ _ gb220 51 #[.int .i64 0, .int .i64 0, .int .u64 0, .string (⟨#[]⟩ : ByteArray)] (0, 0) _ rfl (by refine bx ?_; refine blk_put (cs := #[.int .i64 0, .int .i64 0, .int .u64 0, .string (⟨#[]⟩ : ByteArray)]) ?_ 3 _ rfl; refine bx ?_; refine blk_put (cs := #[.int .i64 0, .int .i64 0, .int .u64 0, .string (⟨#[]⟩ : ByteArray)]) ?_ 2 _ rfl; refine bx ?_; refine blk_put (cs := #[.int .i64 0, .int .i64 0, .int .u64 0, .string (⟨#[]⟩ : ByteArray)]) ?_ 1 _ rfl; refine bx ?_; refine blk_put (cs := #[.int .i64 0, .int .i64 0, .int .u64 0, .string (⟨#[]⟩ : ByteArray)]) ?_ 0 _ rfl; refine bx ?_; refine blk_far ?_ NB220_221.out _; refine bx ?_; exact BK220.out) Tryd.underlying51 rfl (by kernel_rfl)) rfl ?_
      exact ⟨eW, by repeat (first | (with_reducible first | exact HB.out | apply below_alloc | apply pw_below_drewN | apply below_drew1 | refine below_set ?_ GE220.out | refine below_set ?_ GE221.out) | exact HB.out)⟩
     rw [if_pos c53] at H
     have c53b0 : (t230 == 0) = true := beq_iff_eq.mpr c53
     have c53b1 : (t230 != 0) = false := bne_eq_false_iff_eq.mpr c53
     clear c53
     simp only [Option.some.injEq, Prod.mk.injEq] at H
     obtain ⟨rfl, rfl, rfl, rfl, rfl, rfl⟩ := H
     go_wp2_with (first | ((with_reducible refine gate_callee (f := 70) rfl ?_); refine goesL_ (some 70) rfl rfl Tryd.func70 (by kernel_rfl) rfl #[.string a0, .int .i64 (wrap64 (a1 + 1))] rfl aO ?_; (first | (with_reducible refine (col_text.calls kj17 a0 (wrap64 (a1 + 1)) t228 t229 t230 _ A52.out).mono ?_) | (with_reducible refine (col_text.calls kj17 a0 (a1 + 1) t228 t229 t230 _ (by have e_ := A52.out; rwa [(by unfold wrap64; omega : wrap64 (a1 + 1) = (a1 + 1))] at e_)).mono ?_)); rintro e w54 ⟨rfl, hb⟩; refine ⟨_, rfl, ?_⟩; replace BK220 := as_ (blk_below (g := gb220) (o := .cells #[.int .i64 0, .int .i64 0, .int .u64 0, .string (⟨#[]⟩ : ByteArray)] 51 (0, 0)) (bk BK220) hb); replace BK221 := as_ (blk_below (g := gb221) (o := .cells #[.int .i64 (wrap64 ((wrap64 (Int.tdiv (wrap64 (bt a0 a1)) 16)) - 1)), .int .i64 0, .int .u64 0, .string (⟨#[]⟩ : ByteArray)] 51 (0, 0)) (bk BK221) hb); replace HB := as_ (below_step bA hb); (try clear hb); (try clear hb2); (try clear hk); (try clear hi); have hnb55 := NB221_220.out; have hnc55 := NB220_221.out; obtain ⟨hcz56_0, hcz56_1, hcz56_2, hcz56_3⟩ := zc4 BK221; obtain ⟨hfz56_0, hfz56_1, hfz56_2, hfz56_3⟩ := zf4 BK221; obtain ⟨hcz57_0, hcz57_1, hcz57_2, hcz57_3⟩ := zc4 BK220; obtain ⟨hfz57_0, hfz57_1, hfz57_2, hfz57_3⟩ := zf4 BK220))
     refine bodyPost_ret (results_ctt rfl _ _ gb220 51 #[.int .i64 (wrap64 ((wrap64 (Int.tdiv (wrap64 (bt a0 a1)) 16)) - 1)), .int .i64 0, .int .u64 0, .string t228] (0, 0) _ rfl (by refine bx ?_; refine blk_put (cs := #[.int .i64 (wrap64 ((wrap64 (Int.tdiv (wrap64 (bt a0 a1)) 16)) - 1)), .int .i64 0, .int .u64 0, .string (⟨#[]⟩ : ByteArray)]) ?_ 3 _ rfl; refine bx ?_; refine blk_put (cs := #[.int .i64 (wrap64 ((wrap64 (Int.tdiv (wrap64 (bt a0 a1)) 16)) - 1)), .int .i64 0, .int .u64 0, .string (⟨#[]⟩ : ByteArray)]) ?_ 2 _ rfl; refine bx ?_; refine blk_put (cs := #[.int .i64 (wrap64 ((wrap64 (Int.tdiv (wrap64 (bt a0 a1)) 16)) - 1)), .int .i64 0, .int .u64 0, .string (⟨#[]⟩ : ByteArray)]) ?_ 1 _ rfl; refine bx ?_; refine blk_put (cs := #[.int .i64 0, .int .i64 0, .int .u64 0, .string (⟨#[]⟩ : ByteArray)]) ?_ 0 _ rfl; refine bx ?_; refine blk_far ?_ NB220_221.out _; refine bx ?_; exact BK220.out) Tryd.underlying51 rfl (by kernel_rfl)) rfl ?_
     exact ⟨eW, by repeat (first | (with_reducible first | exact HB.out | apply below_alloc | apply pw_below_drewN | apply below_drew1 | refine below_set ?_ GE220.out | refine below_set ?_ GE221.out) | exact HB.out)⟩
end Go.Proofs.YthaicofleloplaaDoor.P
