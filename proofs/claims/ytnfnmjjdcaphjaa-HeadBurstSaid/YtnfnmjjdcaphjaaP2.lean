/- What is proved here: for functions of the Go text, a Lean function each, and that the call comes to just what it answers. Conditions: as each contract names them. Written by wip/tools/myprint.py, a driver of the print of the kit. -/
import Derived.Test.YtnfnmjjdcaphjaaP0
import Derived.Test.YtnfnmjjdcaphjaaWAbbr
namespace Go.Proofs.Ytnfnmjjdcaphjaa.P
open Go.RowKit Go.Proofs.YtnfnmjjdcaphjaaW.PrintWords Go.Proofs.YtnfnmjjdcaphjaaW.PrintLast Go.Proofs.YtnfnmjjdcaphjaaW.PrintMore Go.Proofs.YtnfnmjjdcaphjaaW.Abbr
-- PACKED
attribute [local go_sem] max2_int min2_int max_two min_two max_three min_three max_four min_four Go.Proofs.YtnfnmjjdcaphjaaLaws.str_leq Go.Proofs.YtnfnmjjdcaphjaaLaws.str_gtr Go.Proofs.YtnfnmjjdcaphjaaLaws.str_geq Go.Proofs.YtnfnmjjdcaphjaaLaws.max2_str Go.Proofs.YtnfnmjjdcaphjaaLaws.min2_str   -- for this text's walks alone
set_option linter.unusedVariables false
set_option linter.unusedSimpArgs false

-- NOT PRINTED: function 44 (reflectlite_TypeOf)

-- NOT PRINTED: function 45 (errors_is)

-- NOT PRINTED: function 33 (errors_Is)

-- NOT PRINTED: function 20 (head_number)

/-! ### head_within: function 31 -/
def head_within.l0 : Nat → Int → List Int → Int → Int → Option (Bool)
 | 0, _, _, _, _ => none
 | k + 1, x0, x7, x8, x9 => if x9 < x8 then (if 0 ≤ x9 then (if x9 < (x7.length : Int) then (if (rd x7 x9) < 0 then (some false) else (if (rd x7 x9) ≥ x0 then (some false) else (head_within.l0 k x0 x7 x8 (wrap64 (x9 + 1))))) else (none)) else (none)) else (some true)
def head_within.f (k : Nat) (a0 : Int) (l1 : List Int) : Option (Bool) := head_within.l0 k a0 l1 (l1.length : Int) 0
theorem head_within.mono_l : ∀ k, (∀ y0 y1 y2 y3, LeO (head_within.l0 k y0 y1 y2 y3) (head_within.l0 (k + 1) y0 y1 y2 y3))
 | 0 => fun _ _ _ _ r h => by simp [head_within.l0] at h
 | k + 1 => by
  have ih0 := head_within.mono_l k
  ·intro y0 y1 y2 y3
   unfold head_within.l0
   repeat' first
   | (with_reducible exact ih0 _ _ _ _)
   | (with_reducible exact LeO.refl _)
   | (with_reducible exact LeO.none _)
   | (with_reducible refine LeO.ite ?_ ?_)
   | (with_reducible refine LeO.bind ?_ (fun _ => ?_))
   | exact ih0 _ _ _ _
   | exact LeO.none _
   | refine LeO.ite ?_ ?_
   | refine LeO.bind ?_ (fun _ => ?_)
theorem head_within.mono : ∀ a0 a1 k, LeO (head_within.f k a0 a1) (head_within.f (k + 1) a0 a1) := by
 intro a0 a1 k
 have ih0 := head_within.mono_l k
 unfold head_within.f
 repeat' first
   | (with_reducible exact ih0 _ _ _ _)
   | (with_reducible exact LeO.refl _)
   | (with_reducible exact LeO.none _)
   | (with_reducible refine LeO.ite ?_ ?_)
   | (with_reducible refine LeO.bind ?_ (fun _ => ?_))
   | exact ih0 _ _ _ _
   | exact LeO.none _
   | refine LeO.ite ?_ ?_
   | refine LeO.bind ?_ (fun _ => ?_)
set_option maxHeartbeats 8000000 in
set_option maxRecDepth 100000 in
theorem head_within.calls (k : Nat) (a0 : Int) (A1 : Option Addr) (c1 : Nat) (l1 : List Int) (r : Bool) (w : World) (hr1 : Kd.C (Kd.int .i64) w A1 l1.length l1) (hc1 : l1.length ≤ c1) (h : head_within.f k a0 l1 = some r) :
  Calls Try.prog 31 #[.int .i64 a0, .slice A1 l1.length c1] w fun e w' => e = .returned (.bool r) ∧ Drawn0 w w' := by
 have HR1 := Aside0.mk hr1
 have HC1 := Aside0.mk hc1
 clear hr1 hc1
 have H : (head_within.l0 k a0 l1 (l1.length : Int) 0) = some r := h
 clear h
 have H' := Aside0.mk H
 clear H
 go_enter Try.func31, Try.ntmps31
 go_wp2
 go_loopg [9] k (fun kq v9 w' => ∃ (x9_1 : Int), v9 = .int .i64 x9_1 ∧ Aside0 (head_within.l0 kq a0 l1 (l1.length : Int) x9_1 = some r) ∧ Aside0 (kq ≤ k) ∧ Drawn0 w w')
 case atStart => exact ⟨(0), (by first | rfl | (simp; done) | (simp [*]; done)), H', ⟨Nat.le_refl _⟩, by repeat (first | exact Drawn0.refl _ | apply Drawn0.step)⟩
 case round =>
  clear H'
  try clear c1
  try clear p2
  obtain ⟨x9_1, rfl, HA, HK1, ⟨m1, rfl⟩⟩ := hrel
  cases gk with
  | zero => exact absurd HA.out (by simp [head_within.l0])
  | succ k1 =>
   have H := HA.out
   clear HA
   simp only [head_within.l0] at H
   by_cases c3 : x9_1 < (l1.length : Int)
   rotate_left
   ·rw [if_neg c3] at H
    have c3b0 : decide (x9_1 < (l1.length : Int)) = false := decide_eq_false c3
    clear c3
    obtain rfl := Option.some.inj H
    go_wp2
    go_ret
    exact ⟨by first | rfl | (simp; done) | (simp [*]; done), by repeat (first | exact Drawn0.refl _ | apply Drawn0.step)⟩
 
   rw [if_pos c3] at H
   have c3b0 : decide (x9_1 < (l1.length : Int)) = true := decide_eq_true c3
   clear c3
   by_cases c4 : 0 ≤ x9_1
   rotate_left
   ·rw [if_neg c4] at H
    exact absurd H (by simp)
   rw [if_pos c4] at H
   have c4b0 : decide (0 ≤ x9_1) = true := decide_eq_true c4
   clear c4
   by_cases c5 : x9_1 < (l1.length : Int)
   rotate_left
   ·rw [if_neg c5] at H
    exact absurd H (by simp)
   rw [if_pos c5] at H
   have c5b0 : decide (x9_1 < (l1.length : Int)) = true := decide_eq_true c5
   clear c5
   by_cases c6 : (rd l1 x9_1) < 0
   ·rw [if_pos c6] at H
    have c6b0 : decide ((rd l1 x9_1) < 0) = true := decide_eq_true c6
    clear c6
    obtain rfl := Option.some.inj H
    have p107 : 0 ≤ (x9_1 : Int) := of_decide_eq_true aM
    have q107 : x9_1 < (l1.length : Int) := of_decide_eq_true aM
    obtain ⟨ad107, e107, hx107_0⟩ := Kd.at_int HR1.out x9_1 p107 q107
    cases e107
    replace p107 := eq_true p107
    replace q107 := eq_true q107
    go_wp2
    go_ret
    exact ⟨by first | rfl | (simp; done) | (simp [*]; done), by repeat (first | exact Drawn0.refl _ | apply Drawn0.step)⟩
   rw [if_neg c6] at H
   have c6b0 : decide ((rd l1 x9_1) < 0) = false := decide_eq_false c6
   clear c6
   by_cases c7 : (rd l1 x9_1) ≥ a0
   ·rw [if_pos c7] at H
    have c7b0 : decide (a0 ≤ (rd l1 x9_1)) = true := decide_eq_true c7
    clear c7
    obtain rfl := Option.some.inj H
    have p107 : 0 ≤ (x9_1 : Int) := of_decide_eq_true aM
    have q107 : x9_1 < (l1.length : Int) := of_decide_eq_true aM
    obtain ⟨ad107, e107, hx107_0⟩ := Kd.at_int HR1.out x9_1 p107 q107
    cases e107
    replace p107 := eq_true p107
    replace q107 := eq_true q107
    go_wp2
    go_ret
    exact ⟨by first | rfl | (simp; done) | (simp [*]; done), by repeat (first | exact Drawn0.refl _ | apply Drawn0.step)⟩
   rw [if_neg c7] at H
   have c7b0 : decide (a0 ≤ (rd l1 x9_1)) = false := decide_eq_false c7
   clear c7
   have H' := Aside0.mk H
   clear H
   have p107 : 0 ≤ (x9_1 : Int) := of_decide_eq_true aM
   have q107 : x9_1 < (l1.length : Int) := of_decide_eq_true aM
   obtain ⟨ad107, e107, hx107_0⟩ := Kd.at_int HR1.out x9_1 p107 q107
   cases e107
   replace p107 := eq_true p107
   replace q107 := eq_true q107
   go_wp2
   go_roundg k1
   case measure => have := HK1.out; omega
   case rel => exact ⟨(wrap64 (x9_1 + 1)), (by first | rfl | (simp; done) | (simp [*]; done)), H', ⟨by have := HK1.out; omega⟩, by repeat (first | exact Drawn0.refl _ | apply Drawn0.step)⟩
/-! ### head_Right: function 14 -/
def head_Right.f (k : Nat) (a0_0 : Int) (a0_1 : Int) (a0_2 : Int) (a0_3 : Int) (a0_4 : Int) : Option (Bool) := if a0_0 ≥ 1 then (if a0_0 < 5 then ((head_within.f k 256 (([a0_1] : List Int))).bind fun t112 => (if t112 = true then ((head_within.f k 65536 (([a0_2] : List Int))).bind fun t116 => (if t116 = true then ((head_within.f k 4096 (([a0_3, a0_4] : List Int))).bind fun t120 => (some t120)) else (some false))) else (some false))) else (some false)) else (some false)
theorem head_Right.mono : ∀ a0 a1 a2 a3 a4 k, LeO (head_Right.f k a0 a1 a2 a3 a4) (head_Right.f (k + 1) a0 a1 a2 a3 a4) := by
 intro a0 a1 a2 a3 a4 k
 unfold head_Right.f
 repeat' first
   | (with_reducible exact head_within.mono _ _ _)
   | (with_reducible exact LeO.refl _)
   | (with_reducible exact LeO.none _)
   | (with_reducible refine LeO.ite ?_ ?_)
   | (with_reducible refine LeO.bind ?_ (fun _ => ?_))
   | exact head_within.mono _ _ _
   | exact LeO.none _
   | refine LeO.ite ?_ ?_
   | refine LeO.bind ?_ (fun _ => ?_)
set_option maxHeartbeats 8000000 in
set_option maxRecDepth 100000 in
theorem head_Right.calls (k : Nat) (a0_0 : Int) (a0_1 : Int) (a0_2 : Int) (a0_3 : Int) (a0_4 : Int) (r : Bool) (w : World) (h : head_Right.f k a0_0 a0_1 a0_2 a0_3 a0_4 = some r) :
  Calls Try.prog 14 #[.agg #[.int .i64 a0_0, .int .i64 a0_1, .int .i64 a0_2, .int .i64 a0_3, .int .i64 a0_4]] w fun e w' => e = .returned (.bool r) ∧ Below w.heap.size w w' := by
 have hu23 := Try.underlying23
 have HB := as_ (Below.refl w.heap.size w)
 have H : (if a0_0 ≥ 1 then (if a0_0 < 5 then ((head_within.f k 256 (([a0_1] : List Int))).bind fun t112 => (if t112 = true then ((head_within.f k 65536 (([a0_2] : List Int))).bind fun t116 => (if t116 = true then ((head_within.f k 4096 (([a0_3, a0_4] : List Int))).bind fun t120 => (some t120)) else (some false))) else (some false))) else (some false)) else (some false)) = some r := h
 clear h
 by_cases c2 : a0_0 ≥ 1
 rotate_left
 ·rw [if_neg c2] at H
  have c2b0 : decide (1 ≤ a0_0) = false := decide_eq_false c2
  clear c2
  obtain rfl := Option.some.inj H
  go_enter Try.func14, Try.ntmps14
  go_wp2_with (first | ((with_reducible refine gate_dst (N := 1) rfl ?_); (try (refine gate_guard (by rfl) ?_; dsimp only)); refine box_event (by rfl) (N := 1) (by rfl) (cs := #[.int .i64 a0_0, .int .i64 a0_1, .int .i64 a0_2, .int .i64 a0_3, .int .i64 a0_4]) (t := 23) gS ?_; intro gb108 hg w38 hbox hb; have BK108 := as_ (hbox); have GW108 := gw hg bA; have GE108 := gw hg bA; replace HB := as_ (below_step bA hb); clear hb hbox hg; obtain ⟨hcz39_0, hcz39_1, hcz39_2, hcz39_3, hcz39_4⟩ := zc5 BK108; obtain ⟨hfz39_0, hfz39_1, hfz39_2, hfz39_3, hfz39_4⟩ := zf5 BK108))
  go_ret
  exact ⟨eW, by repeat (first | (with_reducible first | exact HB.out | apply below_alloc | apply pw_below_drewN | apply below_drew1 | refine below_set ?_ GE108.out) | exact HB.out)⟩
 
 rw [if_pos c2] at H
 have c2b0 : decide (1 ≤ a0_0) = true := decide_eq_true c2
 clear c2
 by_cases c3 : a0_0 < 5
 rotate_left
 ·rw [if_neg c3] at H
  have c3b0 : decide (a0_0 < 5) = false := decide_eq_false c3
  clear c3
  obtain rfl := Option.some.inj H
  go_enter Try.func14, Try.ntmps14
  go_wp2_with (first | ((with_reducible refine gate_dst (N := 1) rfl ?_); (try (refine gate_guard (by rfl) ?_; dsimp only)); refine box_event (by rfl) (N := 1) (by rfl) (cs := #[.int .i64 a0_0, .int .i64 a0_1, .int .i64 a0_2, .int .i64 a0_3, .int .i64 a0_4]) (t := 23) gS ?_; intro gb108 hg w36 hbox hb; have BK108 := as_ (hbox); have GW108 := gw hg bA; have GE108 := gw hg bA; replace HB := as_ (below_step bA hb); clear hb hbox hg; obtain ⟨hcz37_0, hcz37_1, hcz37_2, hcz37_3, hcz37_4⟩ := zc5 BK108; obtain ⟨hfz37_0, hfz37_1, hfz37_2, hfz37_3, hfz37_4⟩ := zf5 BK108))
  go_ret
  exact ⟨eW, by repeat (first | (with_reducible first | exact HB.out | apply below_alloc | apply pw_below_drewN | apply below_drew1 | refine below_set ?_ GE108.out) | exact HB.out)⟩
 rw [if_pos c3] at H
 have c3b0 : decide (a0_0 < 5) = true := decide_eq_true c3
 clear c3
 obtain ⟨y109, hy109⟩ : ∃ y_ : List Int, y_ = (([a0_1] : List Int)) := ⟨_, rfl⟩
 replace H : ((head_within.f k 256 y109).bind fun t112 => (if t112 = true then ((head_within.f k 65536 (([a0_2] : List Int))).bind fun t116 => (if t116 = true then ((head_within.f k 4096 (([a0_3, a0_4] : List Int))).bind fun t120 => (some t120)) else (some false))) else (some false))) = some r := by first | (rw [hy109]; with_reducible exact H) | (have H2_ := (Option.bind_some _ _).symm.trans H; rw [hy109]; with_reducible exact H2_) | (have H2_ := (Option.bind_some _ _).symm.trans H; with_reducible exact H2_) | with_reducible exact H | (rw [hy109]; exact H) | exact H
 have Ny109 := Aside0.mk hy109
 clear hy109
 replace H := bM H
 obtain ⟨t112, A40, H⟩ := H
 replace H : (if t112 = true then ((head_within.f k 65536 (([a0_2] : List Int))).bind fun t116 => (if t116 = true then ((head_within.f k 4096 (([a0_3, a0_4] : List Int))).bind fun t120 => (some t120)) else (some false))) else (some false)) = some r := H
 have A4 := Aside0.mk A40
 clear A40
 by_cases c5 : t112 = true
 rotate_left
 ·replace c5 := Bool.eq_false_iff.mpr c5
  subst c5
  have H1 : (some false) = some r := by rw [if_neg (show ¬ (false = true) by decide)] at H; exact H
  clear H
  have H := H1
  clear H1
  obtain rfl := Option.some.inj H
  go_enter Try.func14, Try.ntmps14
  go_wp2_with (first | ((with_reducible refine gate_dst (N := 1) rfl ?_); (try (refine gate_guard (by rfl) ?_; dsimp only)); refine box_event (by rfl) (N := 1) (by rfl) (cs := #[.int .i64 a0_0, .int .i64 a0_1, .int .i64 a0_2, .int .i64 a0_3, .int .i64 a0_4]) (t := 23) gS ?_; intro gb108 hg w31 hbox hb; have BK108 := as_ (hbox); have GW108 := gw hg bA; have GE108 := gw hg bA; replace HB := as_ (below_step bA hb); clear hb hbox hg; obtain ⟨hcz32_0, hcz32_1, hcz32_2, hcz32_3, hcz32_4⟩ := zc5 BK108; obtain ⟨hfz32_0, hfz32_1, hfz32_2, hfz32_3, hfz32_4⟩ := zf5 BK108) | ((with_reducible refine gate_dst (N := 14) rfl ?_); (try (refine gate_guard (by rfl) ?_; dsimp only)); refine Kd.R_lit (Kd.int .i64) _ 3 ?hg (N := 14) ?hd (xs := ([a0_1] : List Int)) (inner := [.int .i64 a0_1]) (ok := fun _ => True) (okp := fun _ => True) ?hr ?hp (fun _ hk => hk) trivial (Below.refl _ _) (Nat.le_refl _) (by simp) ?_; (case hd => rfl); (case hg => rfl); (case hr => first | (go_simp; done) | (go_simp; rfl)); (case hp => exact (Reps.one (show Kd.M (Kd.int .i64) _ _ _ a0_1 [.int .i64 a0_1] from rfl) (Reps.none _ _))); intro v110 w33 ho34 hb hg_ hnew_; clear hg_ hnew_; (first | rw [← Ny109.out] at ho34 | (simp only [Int.reduceToNat] at ho34; rw [← Ny109.out] at ho34)); have HO111 := as_ (Kd.R_lower ho34 (below_size bA)); replace BK108 := bb BK108 hb; replace HB := as_ (below_step bA hb); clear hb ho34; obtain ⟨Ao35, co35, eo35⟩ := Kd.R_slice HO111.out; subst eo35) | (go_at_call 31; (with_reducible refine (head_within.calls k 256 _ _ y109 false _ ?side1 ?side2 A4.out).mono ?_); (case side1 => repeat (first | exact (Kd.R_reads' HO111.out).2.2 | (with_reducible refine Kd.C_alloc ?_ _) | (with_reducible refine Kd.C_drewN ?_ _) | (with_reducible refine Kd.C_drew ?_))); (case side2 => exact (Kd.R_reads' HO111.out).2.1); rintro e w' ⟨rfl, ⟨nd, rfl⟩⟩))
  go_ret
  exact ⟨eW, by repeat (first | (with_reducible first | exact HB.out | apply below_alloc | apply pw_below_drewN | apply below_drew1 | refine below_set ?_ GE108.out) | exact HB.out)⟩
 subst c5
 have H1 : ((head_within.f k 65536 (([a0_2] : List Int))).bind fun t116 => (if t116 = true then ((head_within.f k 4096 (([a0_3, a0_4] : List Int))).bind fun t120 => (some t120)) else (some false))) = some r := by rw [if_pos rfl] at H; exact H
 clear H
 have H := H1
 clear H1
 obtain ⟨y113, hy113⟩ : ∃ y_ : List Int, y_ = (([a0_2] : List Int)) := ⟨_, rfl⟩
 replace H : ((head_within.f k 65536 y113).bind fun t116 => (if t116 = true then ((head_within.f k 4096 (([a0_3, a0_4] : List Int))).bind fun t120 => (some t120)) else (some false))) = some r := by first | (rw [hy113]; with_reducible exact H) | (have H2_ := (Option.bind_some _ _).symm.trans H; rw [hy113]; with_reducible exact H2_) | (have H2_ := (Option.bind_some _ _).symm.trans H; with_reducible exact H2_) | with_reducible exact H | (rw [hy113]; exact H) | exact H
 have Ny113 := Aside0.mk hy113
 clear hy113
 replace H := bM H
 obtain ⟨t116, A60, H⟩ := H
 replace H : (if t116 = true then ((head_within.f k 4096 (([a0_3, a0_4] : List Int))).bind fun t120 => (some t120)) else (some false)) = some r := H
 have A6 := Aside0.mk A60
 clear A60
 by_cases c7 : t116 = true
 rotate_left
 ·replace c7 := Bool.eq_false_iff.mpr c7
  subst c7
  have H1 : (some false) = some r := by rw [if_neg (show ¬ (false = true) by decide)] at H; exact H
  clear H
  have H := H1
  clear H1
  obtain rfl := Option.some.inj H
  go_enter Try.func14, Try.ntmps14
  go_wp2_with (first | ((with_reducible refine gate_dst (N := 1) rfl ?_); (try (refine gate_guard (by rfl) ?_; dsimp only)); refine box_event (by rfl) (N := 1) (by rfl) (cs := #[.int .i64 a0_0, .int .i64 a0_1, .int .i64 a0_2, .int .i64 a0_3, .int .i64 a0_4]) (t := 23) gS ?_; intro gb108 hg w22 hbox hb; have BK108 := as_ (hbox); have GW108 := gw hg bA; have GE108 := gw hg bA; replace HB := as_ (below_step bA hb); clear hb hbox hg; obtain ⟨hcz23_0, hcz23_1, hcz23_2, hcz23_3, hcz23_4⟩ := zc5 BK108; obtain ⟨hfz23_0, hfz23_1, hfz23_2, hfz23_3, hfz23_4⟩ := zf5 BK108) | ((with_reducible refine gate_dst (N := 14) rfl ?_); (try (refine gate_guard (by rfl) ?_; dsimp only)); refine Kd.R_lit (Kd.int .i64) _ 3 ?hg (N := 14) ?hd (xs := ([a0_1] : List Int)) (inner := [.int .i64 a0_1]) (ok := fun _ => True) (okp := fun _ => True) ?hr ?hp (fun _ hk => hk) trivial (Below.refl _ _) (Nat.le_refl _) (by simp) ?_; (case hd => rfl); (case hg => rfl); (case hr => first | (go_simp; done) | (go_simp; rfl)); (case hp => exact (Reps.one (show Kd.M (Kd.int .i64) _ _ _ a0_1 [.int .i64 a0_1] from rfl) (Reps.none _ _))); intro v110 w24 ho25 hb hg_ hnew_; clear hg_ hnew_; (first | rw [← Ny109.out] at ho25 | (simp only [Int.reduceToNat] at ho25; rw [← Ny109.out] at ho25)); have HO111 := as_ (Kd.R_lower ho25 (below_size bA)); replace BK108 := bb BK108 hb; replace HB := as_ (below_step bA hb); clear hb ho25; obtain ⟨Ao26, co26, eo26⟩ := Kd.R_slice HO111.out; subst eo26) | (go_at_call 31; (with_reducible refine (head_within.calls k 256 _ _ y109 true _ ?side1 ?side2 A4.out).mono ?_); (case side1 => repeat (first | exact (Kd.R_reads' HO111.out).2.2 | (with_reducible refine Kd.C_alloc ?_ _) | (with_reducible refine Kd.C_drewN ?_ _) | (with_reducible refine Kd.C_drew ?_))); (case side2 => exact (Kd.R_reads' HO111.out).2.1); rintro e w' ⟨rfl, ⟨nd, rfl⟩⟩; obtain ⟨hcz27_0, hcz27_1, hcz27_2, hcz27_3, hcz27_4⟩ := zc5 BK108; obtain ⟨hfz27_0, hfz27_1, hfz27_2, hfz27_3, hfz27_4⟩ := zf5 BK108) | ((with_reducible refine gate_dst (N := 20) rfl ?_); (try (refine gate_guard (by rfl) ?_; dsimp only)); refine Kd.R_lit (Kd.int .i64) _ 3 ?hg (N := 20) ?hd (xs := ([a0_2] : List Int)) (inner := [.int .i64 a0_2]) (ok := fun _ => True) (okp := fun _ => True) ?hr ?hp (fun _ hk => hk) trivial (Below.refl _ _) (Nat.le_refl _) (by simp) ?_; (case hd => rfl); (case hg => rfl); (case hr => first | (go_simp; done) | (go_simp; rfl)); (case hp => exact (Reps.one (show Kd.M (Kd.int .i64) _ _ _ a0_2 [.int .i64 a0_2] from rfl) (Reps.none _ _))); intro v114 w28 ho29 hb hg_ hnew_; clear hg_ hnew_; (first | rw [← Ny113.out] at ho29 | (simp only [Int.reduceToNat] at ho29; rw [← Ny113.out] at ho29)); have HO115 := as_ (Kd.R_lower (Kd.R_new' ho29 (Kd.R_lt (by (with_reducible repeat (first | apply Kd.R_alloc | apply Kd.R_drewN | apply Kd.R_drew)); exact HO111.out))) (below_size bA)); replace HO111 := as_ (Kd.R_elder' (by (with_reducible repeat (first | apply Kd.R_alloc | apply Kd.R_drewN | apply Kd.R_drew)); exact HO111.out) (Kd.R_base ho29) hb); replace BK108 := bb BK108 hb; replace HB := as_ (below_step bA hb); clear hb ho29; obtain ⟨Ao30, co30, eo30⟩ := Kd.R_slice HO115.out; subst eo30) | (go_at_call 31; (with_reducible refine (head_within.calls k 65536 _ _ y113 false _ ?side1 ?side2 A6.out).mono ?_); (case side1 => repeat (first | exact (Kd.R_reads' HO115.out).2.2 | (with_reducible refine Kd.C_alloc ?_ _) | (with_reducible refine Kd.C_drewN ?_ _) | (with_reducible refine Kd.C_drew ?_))); (case side2 => exact (Kd.R_reads' HO115.out).2.1); rintro e w' ⟨rfl, ⟨nd, rfl⟩⟩))
  go_ret
  exact ⟨eW, by repeat (first | (with_reducible first | exact HB.out | apply below_alloc | apply pw_below_drewN | apply below_drew1 | refine below_set ?_ GE108.out) | exact HB.out)⟩
 subst c7
 have H1 : ((head_within.f k 4096 (([a0_3, a0_4] : List Int))).bind fun t120 => (some t120)) = some r := by rw [if_pos rfl] at H; exact H
 clear H
 have H := H1
 clear H1
 obtain ⟨y117, hy117⟩ : ∃ y_ : List Int, y_ = (([a0_3, a0_4] : List Int)) := ⟨_, rfl⟩
 replace H : ((head_within.f k 4096 y117).bind fun t120 => (some t120)) = some r := by first | (rw [hy117]; with_reducible exact H) | (have H2_ := (Option.bind_some _ _).symm.trans H; rw [hy117]; with_reducible exact H2_) | (have H2_ := (Option.bind_some _ _).symm.trans H; with_reducible exact H2_) | with_reducible exact H | (rw [hy117]; exact H) | exact H
 have Ny117 := Aside0.mk hy117
 clear hy117
 replace H := bM H
 obtain ⟨t120, A80, H⟩ := H
 replace H : (some t120) = some r := H
 have A8 := Aside0.mk A80
 clear A80
 obtain rfl := Option.some.inj H
 go_enter Try.func14, Try.ntmps14
 go_wp2_with (first | ((with_reducible refine gate_dst (N := 1) rfl ?_); (try (refine gate_guard (by rfl) ?_; dsimp only)); refine box_event (by rfl) (N := 1) (by rfl) (cs := #[.int .i64 a0_0, .int .i64 a0_1, .int .i64 a0_2, .int .i64 a0_3, .int .i64 a0_4]) (t := 23) gS ?_; intro gb108 hg w9 hbox hb; have BK108 := as_ (hbox); have GW108 := gw hg bA; have GE108 := gw hg bA; replace HB := as_ (below_step bA hb); clear hb hbox hg; obtain ⟨hcz10_0, hcz10_1, hcz10_2, hcz10_3, hcz10_4⟩ := zc5 BK108; obtain ⟨hfz10_0, hfz10_1, hfz10_2, hfz10_3, hfz10_4⟩ := zf5 BK108) | ((with_reducible refine gate_dst (N := 14) rfl ?_); (try (refine gate_guard (by rfl) ?_; dsimp only)); refine Kd.R_lit (Kd.int .i64) _ 3 ?hg (N := 14) ?hd (xs := ([a0_1] : List Int)) (inner := [.int .i64 a0_1]) (ok := fun _ => True) (okp := fun _ => True) ?hr ?hp (fun _ hk => hk) trivial (Below.refl _ _) (Nat.le_refl _) (by simp) ?_; (case hd => rfl); (case hg => rfl); (case hr => first | (go_simp; done) | (go_simp; rfl)); (case hp => exact (Reps.one (show Kd.M (Kd.int .i64) _ _ _ a0_1 [.int .i64 a0_1] from rfl) (Reps.none _ _))); intro v110 w11 ho12 hb hg_ hnew_; clear hg_ hnew_; (first | rw [← Ny109.out] at ho12 | (simp only [Int.reduceToNat] at ho12; rw [← Ny109.out] at ho12)); have HO111 := as_ (Kd.R_lower ho12 (below_size bA)); replace BK108 := bb BK108 hb; replace HB := as_ (below_step bA hb); clear hb ho12; obtain ⟨Ao13, co13, eo13⟩ := Kd.R_slice HO111.out; subst eo13) | (go_at_call 31; (with_reducible refine (head_within.calls k 256 _ _ y109 true _ ?side1 ?side2 A4.out).mono ?_); (case side1 => repeat (first | exact (Kd.R_reads' HO111.out).2.2 | (with_reducible refine Kd.C_alloc ?_ _) | (with_reducible refine Kd.C_drewN ?_ _) | (with_reducible refine Kd.C_drew ?_))); (case side2 => exact (Kd.R_reads' HO111.out).2.1); rintro e w' ⟨rfl, ⟨nd, rfl⟩⟩; obtain ⟨hcz14_0, hcz14_1, hcz14_2, hcz14_3, hcz14_4⟩ := zc5 BK108; obtain ⟨hfz14_0, hfz14_1, hfz14_2, hfz14_3, hfz14_4⟩ := zf5 BK108) | ((with_reducible refine gate_dst (N := 20) rfl ?_); (try (refine gate_guard (by rfl) ?_; dsimp only)); refine Kd.R_lit (Kd.int .i64) _ 3 ?hg (N := 20) ?hd (xs := ([a0_2] : List Int)) (inner := [.int .i64 a0_2]) (ok := fun _ => True) (okp := fun _ => True) ?hr ?hp (fun _ hk => hk) trivial (Below.refl _ _) (Nat.le_refl _) (by simp) ?_; (case hd => rfl); (case hg => rfl); (case hr => first | (go_simp; done) | (go_simp; rfl)); (case hp => exact (Reps.one (show Kd.M (Kd.int .i64) _ _ _ a0_2 [.int .i64 a0_2] from rfl) (Reps.none _ _))); intro v114 w15 ho16 hb hg_ hnew_; clear hg_ hnew_; (first | rw [← Ny113.out] at ho16 | (simp only [Int.reduceToNat] at ho16; rw [← Ny113.out] at ho16)); have HO115 := as_ (Kd.R_lower (Kd.R_new' ho16 (Kd.R_lt (by (with_reducible repeat (first | apply Kd.R_alloc | apply Kd.R_drewN | apply Kd.R_drew)); exact HO111.out))) (below_size bA)); replace HO111 := as_ (Kd.R_elder' (by (with_reducible repeat (first | apply Kd.R_alloc | apply Kd.R_drewN | apply Kd.R_drew)); exact HO111.out) (Kd.R_base ho16) hb); replace BK108 := bb BK108 hb; replace HB := as_ (below_step bA hb); clear hb ho16; obtain ⟨Ao17, co17, eo17⟩ := Kd.R_slice HO115.out; subst eo17) | (go_at_call 31; (with_reducible refine (head_within.calls k 65536 _ _ y113 true _ ?side1 ?side2 A6.out).mono ?_); (case side1 => repeat (first | exact (Kd.R_reads' HO115.out).2.2 | (with_reducible refine Kd.C_alloc ?_ _) | (with_reducible refine Kd.C_drewN ?_ _) | (with_reducible refine Kd.C_drew ?_))); (case side2 => exact (Kd.R_reads' HO115.out).2.1); rintro e w' ⟨rfl, ⟨nd, rfl⟩⟩; obtain ⟨hcz18_0, hcz18_1, hcz18_2, hcz18_3, hcz18_4⟩ := zc5 BK108; obtain ⟨hfz18_0, hfz18_1, hfz18_2, hfz18_3, hfz18_4⟩ := zf5 BK108) | ((with_reducible refine gate_dst (N := 28) rfl ?_); (try (refine gate_guard (by rfl) ?_; dsimp only)); refine Kd.R_lit (Kd.int .i64) _ 3 ?hg (N := 28) ?hd (xs := ([a0_3, a0_4] : List Int)) (inner := [.int .i64 a0_3, .int .i64 a0_4]) (ok := fun _ => True) (okp := fun _ => True) ?hr ?hp (fun _ hk => hk) trivial (Below.refl _ _) (Nat.le_refl _) (by simp) ?_; (case hd => rfl); (case hg => rfl); (case hr => first | (go_simp; done) | (go_simp; rfl)); (case hp => exact (Reps.one (show Kd.M (Kd.int .i64) _ _ _ a0_3 [.int .i64 a0_3] from rfl) (Reps.one (show Kd.M (Kd.int .i64) _ _ _ a0_4 [.int .i64 a0_4] from rfl) (Reps.none _ _)))); intro v118 w19 ho20 hb hg_ hnew_; clear hg_ hnew_; (first | rw [← Ny117.out] at ho20 | (simp only [Int.reduceToNat] at ho20; rw [← Ny117.out] at ho20)); have HO119 := as_ (Kd.R_lower (Kd.R_new' (Kd.R_new' ho20 (Kd.R_lt (by (with_reducible repeat (first | apply Kd.R_alloc | apply Kd.R_drewN | apply Kd.R_drew)); exact HO111.out))) (Kd.R_lt (by (with_reducible repeat (first | apply Kd.R_alloc | apply Kd.R_drewN | apply Kd.R_drew)); exact HO115.out))) (below_size bA)); replace HO111 := as_ (Kd.R_elder' (by (with_reducible repeat (first | apply Kd.R_alloc | apply Kd.R_drewN | apply Kd.R_drew)); exact HO111.out) (Kd.R_base ho20) hb); replace HO115 := as_ (Kd.R_elder' (by (with_reducible repeat (first | apply Kd.R_alloc | apply Kd.R_drewN | apply Kd.R_drew)); exact HO115.out) (Kd.R_base ho20) hb); replace BK108 := bb BK108 hb; replace HB := as_ (below_step bA hb); clear hb ho20; obtain ⟨Ao21, co21, eo21⟩ := Kd.R_slice HO119.out; subst eo21) | (go_at_call 31; (with_reducible refine (head_within.calls k 4096 _ _ y117 t120 _ ?side1 ?side2 A8.out).mono ?_); (case side1 => repeat (first | exact (Kd.R_reads' HO119.out).2.2 | (with_reducible refine Kd.C_alloc ?_ _) | (with_reducible refine Kd.C_drewN ?_ _) | (with_reducible refine Kd.C_drew ?_))); (case side2 => exact (Kd.R_reads' HO119.out).2.1); rintro e w' ⟨rfl, ⟨nd, rfl⟩⟩))
 go_ret
 exact ⟨eW, by repeat (first | (with_reducible first | exact HB.out | apply below_alloc | apply pw_below_drewN | apply below_drew1 | refine below_set ?_ GE108.out) | exact HB.out)⟩
/-! ### disk_sizes: function 42 -/
def disk_sizes.f  : Option (Int × Int × Int × Int) := some (128, 256, 512, 1024)
set_option maxHeartbeats 8000000 in
set_option maxRecDepth 100000 in
theorem disk_sizes.calls  (r1 : Int) (r2 : Int) (r3 : Int) (r4 : Int) (w : World) (h : disk_sizes.f  = some (r1, r2, r3, r4)) :
  Calls Try.prog 42 #[] w fun e w' => e = .returned (.agg #[.int .i64 r1, .int .i64 r2, .int .i64 r3, .int .i64 r4]) ∧ Below w.heap.size w w' := by
 have hu81 := Try.underlying81
 have HB := as_ (Below.refl w.heap.size w)
 have H : (some (128, 256, 512, 1024)) = some (r1, r2, r3, r4) := h
 clear h
 simp only [Option.some.injEq, Prod.mk.injEq] at H
 obtain ⟨rfl, rfl, rfl, rfl⟩ := H
 go_enter Try.func42, Try.ntmps42
 go_wp2_with (first | ((with_reducible refine gate_dst (N := 0) rfl ?_); refine box_event (by rfl) (N := 0) (by rfl) (cs := #[.int .i64 0, .int .i64 0, .int .i64 0, .int .i64 0]) (t := 81) gS ?_; intro gb121 hg w1 hbox hb; have BK121 := as_ (hbox); have GW121 := gw hg bA; have GE121 := gw hg bA; replace HB := as_ (below_step bA hb); clear hb hbox hg; obtain ⟨hcz2_0, hcz2_1, hcz2_2, hcz2_3⟩ := zc4 BK121; obtain ⟨hfz2_0, hfz2_1, hfz2_2, hfz2_3⟩ := zf4 BK121))
 refine bodyPost_ret (results_cell_row rfl _ _ gb121 81 #[.int .i64 128, .int .i64 256, .int .i64 512, .int .i64 1024] (0, 0) _ rfl (by refine bx ?_; refine blk_put (cs := #[.int .i64 128, .int .i64 256, .int .i64 512, .int .i64 0]) ?_ 3 _ rfl; refine bx ?_; refine blk_put (cs := #[.int .i64 128, .int .i64 256, .int .i64 0, .int .i64 0]) ?_ 2 _ rfl; refine bx ?_; refine blk_put (cs := #[.int .i64 128, .int .i64 0, .int .i64 0, .int .i64 0]) ?_ 1 _ rfl; refine bx ?_; refine blk_put (cs := #[.int .i64 0, .int .i64 0, .int .i64 0, .int .i64 0]) ?_ 0 _ rfl; refine bx ?_; exact BK121.out) Try.underlying81 rfl (by kernel_rfl)) rfl ?_
 exact ⟨eW, by repeat (first | (with_reducible first | exact HB.out | apply below_alloc | apply pw_below_drewN | apply below_drew1 | refine below_set ?_ GE121.out) | exact HB.out)⟩

/-! ### disk_Size: function 28, by hand -/
def disk_Size.f (a0 : Int) : Option (Bool) := some (decide (a0 = 128) || decide (a0 = 256) || decide (a0 = 512) || decide (a0 = 1024))
theorem disk_index (W : World) (i : Int) (v : Int) (h : (i = 0 ∧ v = 128) ∨ (i = 1 ∧ v = 256) ∨ (i = 2 ∧ v = 512) ∨ (i = 3 ∧ v = 1024)) : (Instr.index 81 (.agg #[.int .i64 128, .int .i64 256, .int .i64 512, .int .i64 1024]) (.int .i64 i)).run Try.prog W = .ok (.int .i64 v) W := by
 have hu : Try.prog.underlying 81 = some (.array 4 3) := by kernel_rfl
 obtain ⟨i0, hi, hz, hz1, _⟩ := info_parts (show (Try.prog.info? 3).map (fun i => (i.zero, i.size, i.bytes)) = some (some (.int .i64 0), 1, 8) by kernel_rfl)
 rcases h with ⟨rfl, rfl⟩ | ⟨rfl, rfl⟩ | ⟨rfl, rfl⟩ | ⟨rfl, rfl⟩ <;> simp [Instr.index, run_underlying hu, asIntOf, sizeOf, typeInfo, hi, hz1, go_sem]
set_option maxHeartbeats 4000000 in
set_option maxRecDepth 100000 in
theorem disk_Size.calls (a0 : Int) (r : Bool) (w : World) (h : disk_Size.f a0 = some r) :
  Calls Try.prog 28 #[.int .i64 a0] w fun e w' => e = .returned (.bool r) ∧ Below w.heap.size w w' := by
 have H := Option.some.inj h
 clear h
 go_enter Try.func28, Try.ntmps28
 go_wp2_with fail
 refine (disk_sizes.calls 128 256 512 1024 _ rfl).mono ?_
 rintro e w1 ⟨rfl, hb⟩
 have HB1 := as_ (below_step (by repeat (first | exact Below.refl _ _ | apply below_alloc | apply pw_below_drewN | apply below_drew1)) hb : Below w.heap.size w w1)
 clear hb
 have H0 : Aside0 (((0 : Int) = 0 ∧ r = (decide (a0 = 128) || decide (a0 = 256) || decide (a0 = 512) || decide (a0 = 1024)))) := ⟨rfl, H.symm⟩
 go_wp2
 go_loopg [6] 5 (fun kq v6 w' => ∃ x6 : Int, v6 = .int .i64 x6 ∧ Aside0 ((x6 = 0 ∧ kq = 5 ∧ r = (decide (a0 = 128) || decide (a0 = 256) || decide (a0 = 512) || decide (a0 = 1024))) ∨ (x6 = 1 ∧ kq = 4 ∧ r = (decide (a0 = 256) || decide (a0 = 512) || decide (a0 = 1024))) ∨ (x6 = 2 ∧ kq = 3 ∧ r = (decide (a0 = 512) || decide (a0 = 1024))) ∨ (x6 = 3 ∧ kq = 2 ∧ r = decide (a0 = 1024)) ∨ (x6 = 4 ∧ kq = 1 ∧ r = false)) ∧ Aside0 (Below w.heap.size w w'))
 case atStart => exact ⟨0, rfl, ⟨.inl ⟨rfl, rfl, H.symm⟩⟩, ⟨HB1.out⟩⟩
 case round =>
  obtain ⟨x6, rfl, HX, HB⟩ := hrel
  clear H0 H
  rcases HX.out with ⟨rfl, rfl, hr⟩ | ⟨rfl, rfl, hr⟩ | ⟨rfl, rfl, hr⟩ | ⟨rfl, rfl, hr⟩ | ⟨rfl, rfl, hr⟩
  ·have HR := Aside0.mk hr
   clear hr HX
   have hix : ∀ W : World, (Instr.index 81 (.agg #[.int .i64 128, .int .i64 256, .int .i64 512, .int .i64 1024]) (.int .i64 0)).run Try.prog W = .ok (.int .i64 128) W := fun W => disk_index W _ _ (by omega)
   by_cases c : a0 = 128
   ·subst c
    go_wp2
    go_ret
    exact ⟨by rw [HR.out]; rfl, by repeat (first | exact HB.out | apply below_alloc | apply pw_below_drewN | apply below_drew1)⟩
   have c0 : ((128 : Int) == a0) = false := beq_eq_false_iff_ne.mpr (fun h => c h.symm)
   have c1 : decide ((128 : Int) = a0) = false := decide_eq_false (fun h => c h.symm)
   go_wp2
   go_roundg 4
   case measure => omega
   case rel => exact ⟨1, rfl, ⟨.inr (.inl ⟨rfl, rfl, by rw [HR.out]; simp [c]⟩)⟩, ⟨by repeat (first | exact HB.out | apply below_alloc | apply pw_below_drewN | apply below_drew1)⟩⟩
  ·have HR := Aside0.mk hr
   clear hr HX
   have hix : ∀ W : World, (Instr.index 81 (.agg #[.int .i64 128, .int .i64 256, .int .i64 512, .int .i64 1024]) (.int .i64 1)).run Try.prog W = .ok (.int .i64 256) W := fun W => disk_index W _ _ (by omega)
   by_cases c : a0 = 256
   ·subst c
    go_wp2
    go_ret
    exact ⟨by rw [HR.out]; rfl, by repeat (first | exact HB.out | apply below_alloc | apply pw_below_drewN | apply below_drew1)⟩
   have c0 : ((256 : Int) == a0) = false := beq_eq_false_iff_ne.mpr (fun h => c h.symm)
   have c1 : decide ((256 : Int) = a0) = false := decide_eq_false (fun h => c h.symm)
   go_wp2
   go_roundg 3
   case measure => omega
   case rel => exact ⟨2, rfl, ⟨.inr (.inr (.inl ⟨rfl, rfl, by rw [HR.out]; simp [c]⟩))⟩, ⟨by repeat (first | exact HB.out | apply below_alloc | apply pw_below_drewN | apply below_drew1)⟩⟩
  ·have HR := Aside0.mk hr
   clear hr HX
   have hix : ∀ W : World, (Instr.index 81 (.agg #[.int .i64 128, .int .i64 256, .int .i64 512, .int .i64 1024]) (.int .i64 2)).run Try.prog W = .ok (.int .i64 512) W := fun W => disk_index W _ _ (by omega)
   by_cases c : a0 = 512
   ·subst c
    go_wp2
    go_ret
    exact ⟨by rw [HR.out]; rfl, by repeat (first | exact HB.out | apply below_alloc | apply pw_below_drewN | apply below_drew1)⟩
   have c0 : ((512 : Int) == a0) = false := beq_eq_false_iff_ne.mpr (fun h => c h.symm)
   have c1 : decide ((512 : Int) = a0) = false := decide_eq_false (fun h => c h.symm)
   go_wp2
   go_roundg 2
   case measure => omega
   case rel => exact ⟨3, rfl, ⟨.inr (.inr (.inr (.inl ⟨rfl, rfl, by rw [HR.out]; simp [c]⟩)))⟩, ⟨by repeat (first | exact HB.out | apply below_alloc | apply pw_below_drewN | apply below_drew1)⟩⟩
  ·have HR := Aside0.mk hr
   clear hr HX
   have hix : ∀ W : World, (Instr.index 81 (.agg #[.int .i64 128, .int .i64 256, .int .i64 512, .int .i64 1024]) (.int .i64 3)).run Try.prog W = .ok (.int .i64 1024) W := fun W => disk_index W _ _ (by omega)
   by_cases c : a0 = 1024
   ·subst c
    go_wp2
    go_ret
    exact ⟨by rw [HR.out]; rfl, by repeat (first | exact HB.out | apply below_alloc | apply pw_below_drewN | apply below_drew1)⟩
   have c0 : ((1024 : Int) == a0) = false := beq_eq_false_iff_ne.mpr (fun h => c h.symm)
   have c1 : decide ((1024 : Int) = a0) = false := decide_eq_false (fun h => c h.symm)
   go_wp2
   go_roundg 1
   case measure => omega
   case rel => exact ⟨4, rfl, ⟨.inr (.inr (.inr (.inr ⟨rfl, rfl, by rw [HR.out]; simp [c]⟩)))⟩, ⟨by repeat (first | exact HB.out | apply below_alloc | apply pw_below_drewN | apply below_drew1)⟩⟩
  ·have HR := Aside0.mk hr
   clear hr HX
   go_wp2
   go_ret
   exact ⟨by rw [HR.out]; rfl, by repeat (first | exact HB.out | apply below_alloc | apply pw_below_drewN | apply below_drew1)⟩


-- NOT PRINTED: function 46 (errors_Join)

-- NOT PRINTED: function 47 (errors_New)

-- NOT PRINTED: function 34 (head_fault)

/-! ### head_may: function 21, by hand -/
theorem eq_code (c d : Int) (W : World) : (binOp .eql 56 (.iface 26 (.int .i64 c)) (.iface 26 (.int .i64 d))).run Try.prog W = .ok (.bool (c == d)) W := by
 have hi : Try.prog.underlying 56 = some (.interface (Try.prog.methodsAt 56)) := by kernel_rfl
 have hp : Try.prog.underlying 26 = some (.int .i64) := by kernel_rfl
 obtain ⟨i, hinfo, hcomp⟩ : ∃ i, Try.prog.info? 26 = some i ∧ i.comparable = true := by
  have h : (Try.prog.info? 26).map (·.comparable) = some true := by kernel_rfl
  cases h' : Try.prog.info? 26 with
  | none => rw [h'] at h; cases h
  | some i => rw [h'] at h; exact ⟨i, rfl, by injection h⟩
 have h : ∀ n : Nat, (Op.equalIn (n + 2) 56 (.iface 26 (.int .i64 c)) (.iface 26 (.int .i64 d))).run Try.prog W = .ok (c == d) W := fun n => by
  simp [Op.equalIn, run_underlying hi, run_underlying hp, typeInfo, hinfo, hcomp]
 simp only [binOp]
 simp [Op.equal, Op.maxDepth, h 9998]
theorem eq_other (t : TypeId) (v : Value) (d : Int) (W : World) (ht : t ≠ 26) : (binOp .eql 56 (.iface t v) (.iface 26 (.int .i64 d))).run Try.prog W = .ok (.bool false) W := by
 have hi : Try.prog.underlying 56 = some (.interface (Try.prog.methodsAt 56)) := by kernel_rfl
 have h : ∀ n : Nat, (Op.equalIn (n + 2) 56 (.iface t v) (.iface 26 (.int .i64 d))).run Try.prog W = .ok false W := fun n => by
  simp [Op.equalIn, run_underlying hi, ht]
 simp only [binOp]
 simp [Op.equal, Op.maxDepth, h 9998]
theorem least_cons (s : String) (r : List String) : (Instr.least (s :: r)).isSome = true := rfl
theorem missing_some (want : Array (String × TypeId)) (got : Array Method) (h : ((want.toList.filter fun (x : String × TypeId) => !got.any fun m => m.name == x.1 && m.sig == x.2).isEmpty) = false) : (Instr.missingMethod want got).isSome = true := by
 unfold Instr.missingMethod
 simp only
 generalize hL : (want.toList.filter fun (x : String × TypeId) => match x with | (name, sig) => !got.any fun m => m.name == name && m.sig == sig) = L
 have hL' : L.isEmpty = false := by rw [← hL]; exact h
 cases L with
 | nil => simp at hL'
 | cons a r =>
  simp only [List.map_cons, List.partition_eq_filter_filter]
  by_cases hd : a.1.contains '.' = true
  ·simp only [List.filter_cons, hd, if_true, List.map_cons]
   cases Instr.least _ <;> rfl
  simp only [Bool.not_eq_true] at hd
  simp only [List.filter_cons, Function.comp, hd, Bool.not_false, if_true]
  rfl
theorem assert_not (t T x : TypeId) (v : Value) (W : World) (h : (match Try.prog.underlying T, Try.prog.info? t with | some (.interface want), some i => !((want.toList.filter fun (x : String × TypeId) => !i.methods.any fun m => m.name == x.1 && m.sig == x.2).isEmpty) | _, _ => false) = true) (hz : (zeroValue T).run Try.prog W = .ok .nilIface W) : (Instr.typeAssert (.iface t v) x T true).run Try.prog W = .ok (.tuple #[.nilIface, .bool false]) W := by
 cases hu : Try.prog.underlying T with
 | none => rw [hu] at h; simp at h
 | some d =>
  cases hi : Try.prog.info? t with
  | none => rw [hu, hi] at h; cases d <;> simp at h
  | some i =>
   rw [hu, hi] at h
   cases d with
   | interface want =>
    have h' := missing_some want i.methods (by simpa only [Bool.not_eq_true'] using h)
    cases hm : Instr.missingMethod want i.methods with
    | none => rw [hm] at h'; cases h'
    | some m => simp [Instr.typeAssert, run_underlying hu, typeInfo, hi, hm, hz, Result.andThen]
   | _ => simp at h
theorem zero_iface (T : TypeId) (W : World) (h : (Try.prog.info? T).map (·.zero) = some (some .nilIface)) : (zeroValue T).run Try.prog W = .ok .nilIface W := by
 cases hi : Try.prog.info? T with
 | none => simp [hi] at h
 | some i =>
  have hz : i.zero = some .nilIface := by simpa [hi] using h
  simp [zeroValue, typeInfo, hi, hz, Result.andThen]
theorem assert_is (t : TypeId) (v : Value) (W : World) (h : (match Try.prog.underlying 101, Try.prog.info? t with | some (.interface want), some i => !((want.toList.filter fun (x : String × TypeId) => !i.methods.any fun m => m.name == x.1 && m.sig == x.2).isEmpty) | _, _ => false) = true) : (Instr.typeAssert (.iface t v) 56 101 true).run Try.prog W = .ok (.tuple #[.nilIface, .bool false]) W := assert_not _ _ _ _ W h (zero_iface _ W (by kernel_rfl))
theorem assert_un (t : TypeId) (v : Value) (W : World) (h : (match Try.prog.underlying 104, Try.prog.info? t with | some (.interface want), some i => !((want.toList.filter fun (x : String × TypeId) => !i.methods.any fun m => m.name == x.1 && m.sig == x.2).isEmpty) | _, _ => false) = true) : (Instr.typeAssert (.iface t v) 56 104 true).run Try.prog W = .ok (.tuple #[.nilIface, .bool false]) W := assert_not _ _ _ _ W h (zero_iface _ W (by kernel_rfl))
theorem assert_uns (t : TypeId) (v : Value) (W : World) (h : (match Try.prog.underlying 106, Try.prog.info? t with | some (.interface want), some i => !((want.toList.filter fun (x : String × TypeId) => !i.methods.any fun m => m.name == x.1 && m.sig == x.2).isEmpty) | _, _ => false) = true) : (Instr.typeAssert (.iface t v) 56 106 true).run Try.prog W = .ok (.tuple #[.nilIface, .bool false]) W := assert_not _ _ _ _ W h (zero_iface _ W (by kernel_rfl))
set_option maxRecDepth 100000 in
set_option maxHeartbeats 4000000 in
theorem is_leaf (t : TypeId) (u : Value) (d : Int) (b : Bool) (w : World) (heq : ∀ W : World, (binOp .eql 56 (.iface t u) (.iface 26 (.int .i64 d))).run Try.prog W = .ok (.bool b) W)
  (h1 : ∀ W : World, (Instr.typeAssert (.iface t u) 56 101 true).run Try.prog W = .ok (.tuple #[.nilIface, .bool false]) W)
  (h2 : ∀ W : World, (Instr.typeAssert (.iface t u) 56 104 true).run Try.prog W = .ok (.tuple #[.nilIface, .bool false]) W)
  (h3 : ∀ W : World, (Instr.typeAssert (.iface t u) 56 106 true).run Try.prog W = .ok (.tuple #[.nilIface, .bool false]) W) :
  Calls Try.prog 45 #[.iface t u, .iface 26 (.int .i64 d), .bool true] w fun e w' => e = .returned (.bool b) ∧ Drawn0 w w' := by
 cases b
 all_goals
  go_enter Try.func45, Try.ntmps45
  go_wp2
  go_loopg [0] 1 (fun kq v0 w' => v0 = .iface t u ∧ w' = w)
  case atStart => exact ⟨rfl, rfl⟩
  case round =>
   obtain ⟨rfl, rfl⟩ := hrel
   go_wp2
   go_ret
   exact ⟨rfl, by repeat (first | exact Drawn0.refl _ | apply Drawn0.step)⟩
theorem is_code (c d : Int) (w : World) : Calls Try.prog 45 #[.iface 26 (.int .i64 c), .iface 26 (.int .i64 d), .bool true] w fun e w' => e = .returned (.bool (c == d)) ∧ Drawn0 w w' :=
 is_leaf _ _ d _ w (eq_code c d) (fun W => assert_is _ _ W (by kernel_rfl)) (fun W => assert_un _ _ W (by kernel_rfl)) (fun W => assert_uns _ _ W (by kernel_rfl))
theorem is_text (u : Value) (d : Int) (w : World) : Calls Try.prog 45 #[.iface 112 u, .iface 26 (.int .i64 d), .bool true] w fun e w' => e = .returned (.bool false) ∧ Drawn0 w w' :=
 is_leaf _ _ d _ w (fun W => eq_other _ _ d W (by decide)) (fun W => assert_is _ _ W (by kernel_rfl)) (fun W => assert_un _ _ W (by kernel_rfl)) (fun W => assert_uns _ _ W (by kernel_rfl))
theorem typeOf_code (u : Value) (W : World) : (callFunc 44 #[.iface 26 u]).run Try.prog W = .ok (.value (.iface 99 (.agg #[typeHandle Try.prog 26]))) W := by
 have hc : (Try.prog.cutTypes.find? (·.1 == "internal/reflectlite.rtype")).map (·.2) = some 99 := by kernel_rfl
 have he : Extern.find Try.f44 = some Extern.ReflectliteType.typeOf := by kernel_rfl
 have hn : Extern.findNext Try.f44 = none := Option.isNone_iff_eq_none.1 (by kernel_rfl)
 rw [run_callFunc_extern Try.func44 (by kernel_rfl) rfl hn he]
 have hct : (cutType "internal/reflectlite.rtype").run Try.prog W = .ok 99 W := by
  unfold cutType
  cases hf : Try.prog.cutTypes.find? (·.1 == "internal/reflectlite.rtype") with
  | none => rw [hf] at hc; cases hc
  | some x =>
   rw [hf] at hc
   injection hc with hc
   simp [hf, hc, Result.andThen]
 have ht : Extern.ReflectliteType.typeOf #[.iface 26 u] = Extern.ReflectliteType.toType 26 := rfl
 rw [ht]
 simp [Extern.ReflectliteType.toType, hct, Extern.Rtype.handle, Result.andThen]
theorem method_val (n : Nat) (t : TypeId) (v : Value) (name : String) (f : FuncId) (q : Bool) (W : World) (h : ((Try.prog.info? t).bind fun i => i.methods.find? (·.name == name)).map (fun m => (m.path.toList.isEmpty, m.func)) = some (true, some (f, q))) (hr : ∀ y : Option String, (receiverAt t (.val v) q y).run Try.prog W = .ok v W) : (method (n + 1) t v name).run Try.prog W = .ok (f, v) W := by
 cases hi : Try.prog.info? t with
 | none => rw [hi] at h; cases h
 | some i =>
  rw [hi] at h
  cases hm : i.methods.find? (·.name == name) with
  | none => simp only [Option.bind_some, hm] at h; cases h
  | some m =>
   simp only [Option.bind_some, hm, Option.map_some, Option.some.injEq, Prod.mk.injEq, List.isEmpty_iff] at h
   obtain ⟨h1, h2⟩ := h
   simp [method, typeInfo, hi, hm, h1, h2, follow, hr, Result.andThen]
theorem receiver_struct (t : TypeId) (v : Value) (W : World) (y : Option String) (h : (match Try.prog.underlying t with | some (.struct _) => true | _ => false) = true) : (receiverAt t (.val v) false y).run Try.prog W = .ok v W := by
 cases hu : Try.prog.underlying t with
 | none => rw [hu] at h; cases h
 | some d =>
  rw [hu] at h
  cases d <;> simp at h
  simp [receiverAt, run_underlying hu, Place.get, Result.andThen]
theorem receiver_ptr (t : TypeId) (v : Value) (W : World) (y : Option String) (h : (match Try.prog.underlying t with | some (.pointer _) => true | _ => false) = true) : (receiverAt t (.val v) true y).run Try.prog W = .ok v W := by
 cases hu : Try.prog.underlying t with
 | none => rw [hu] at h; cases h
 | some d =>
  rw [hu] at h
  cases d <;> simp at h
  simp [receiverAt, run_underlying hu, Place.get, Result.andThen]
theorem comparable_code (n : Nat) (v : Value) (W : World) : (method (n + 1) 99 v "Comparable").run Try.prog W = .ok (78, v) W :=
 method_val n _ v _ _ false W (by kernel_rfl) (fun y => receiver_struct _ v W y (by kernel_rfl))
theorem handle_back (P : Program) (t : TypeId) : handleType P (typeHandle P t) = some t := by simp [handleType, typeHandle]
theorem run_program_ (P : Program) (W : World) : Sem.run P program W = .ok P W := rfl
theorem comparable_any (P : Program) (t : TypeId) (i : TypeInfo) (H : Value) (W : World) (hb : handleType P H = some t) (hp : P.packed t = false) (hh : P.holdsPacked P.depth t = false) (hi : P.info? t = some i) (hc : i.comparable = true) :
  ((Extern.ReflectliteType.method fun t => do Extern.Rtype.noPackHeld "Comparable" t; pure (.bool (← typeInfo t).comparable)) #[.agg #[H]]).run P W = .ok (.bool true) W := by
 have ht : ∀ (G : TypeId → Sem Value) (r : Value), Extern.ReflectliteType.method G #[r] = (do G (← Extern.ReflectliteType.ofRtype r)) := fun _ _ => rfl
 have ho : ∀ (r : Value), Extern.ReflectliteType.ofRtype (.agg #[r]) = (do let t ← Extern.Rtype.ofHandle r; Extern.Rtype.noPack "a Type asked or handed on" t; pure t) := fun _ => rfl
 have h1 : (Extern.Rtype.ofHandle H).run P W = .ok t W := by
  unfold Extern.Rtype.ofHandle
  simp only [Sem.run_bind, run_program_, Result.andThen, hb, Sem.run_pure]
 have h2 : ∀ s, (Extern.Rtype.noPack s t).run P W = .ok () W := by
  intro s
  unfold Extern.Rtype.noPack
  simp only [Sem.run_bind, run_program_, Result.andThen, hp, Bool.false_eq_true, if_false, Sem.run_pure]
 have h3 : ∀ s, (Extern.Rtype.noPackHeld s t).run P W = .ok () W := by
  intro s
  unfold Extern.Rtype.noPackHeld
  simp only [Sem.run_bind, run_program_, Result.andThen, hh, Bool.false_eq_true, if_false, Sem.run_pure]
 have h4 : (typeInfo t).run P W = .ok i W := by simp [typeInfo, hi]
 rw [ht, ho]
 simp only [Sem.run_bind, h1, h2, h3, h4, Result.andThen, Sem.run_pure, hc]
theorem comparable_run (W : World) : (callFunc 78 #[.agg #[typeHandle Try.prog 26]]).run Try.prog W = .ok (.value (.bool true)) W := by
 have he : Extern.find Try.f78 = some (Extern.ReflectliteType.method fun t => do Extern.Rtype.noPackHeld "Comparable" t; pure (.bool (← typeInfo t).comparable)) := by kernel_rfl
 have hn : Extern.findNext Try.f78 = none := Option.isNone_iff_eq_none.1 (by kernel_rfl)
 rw [run_callFunc_extern Try.func78 (by kernel_rfl) rfl hn he]
 have h : (Try.prog.info? 26).map (·.comparable) = some true := by kernel_rfl
 cases hi : Try.prog.info? 26 with
 | none => rw [hi] at h; cases h
 | some i =>
  rw [hi] at h
  rw [comparable_any Try.prog 26 i _ W (handle_back _ _) (by kernel_rfl) (by kernel_rfl) hi (by injection h)]
  rfl
set_option maxRecDepth 100000 in
set_option maxHeartbeats 4000000 in
theorem Is_leaf (t : TypeId) (u : Value) (d : Int) (b : Bool) (w : World) (hn : ∀ W : World, (binOp .eql 56 (.iface t u) .nilIface).run Try.prog W = .ok (.bool false) W) (hn2 : ∀ W : World, (binOp .eql 56 (.iface 26 (.int .i64 d)) .nilIface).run Try.prog W = .ok (.bool false) W)
  (hIs : ∀ W : World, Below w.heap.size w W → Calls Try.prog 45 #[.iface t u, .iface 26 (.int .i64 d), .bool true] W fun e w' => e = .returned (.bool b) ∧ Drawn0 W w') :
  Calls Try.prog 33 #[.iface t u, .iface 26 (.int .i64 d)] w fun e w' => e = .returned (.bool b) ∧ Below w.heap.size w w' := by
 have HB := as_ (Below.refl w.heap.size w)
 have hT := typeOf_code (.int .i64 d)
 have hM := comparable_code
 have hR := comparable_run
 go_enter Try.func33, Try.ntmps33
 go_wp2_with fail
 refine (hIs _ (by repeat (first | exact HB.out | apply below_alloc | apply pw_below_drewN | apply below_drew1))).mono ?_
 rintro e w' ⟨rfl, ⟨nd, rfl⟩⟩
 go_wp2
 go_ret
 exact ⟨rfl, by repeat (first | exact HB.out | apply below_alloc | apply pw_below_drewN | apply below_drew1)⟩
set_option maxRecDepth 100000 in
set_option maxHeartbeats 4000000 in
theorem join_Unwrap (gj : Nat) (v : Value) (w : World) (hj : w.cell? ⟨gj, 0, none⟩ = some v) : Calls Try.prog 88 #[.pointer (some ⟨gj, 0, none⟩)] w fun e w' => e = .returned v ∧ Drawn0 w w' := by
 go_enter Try.func88, Try.ntmps88
 go_wp2
 go_ret
 exact ⟨rfl, by repeat (first | exact Drawn0.refl _ | apply Drawn0.step)⟩
theorem assert_has (t : TypeId) (v : Value) (T x : TypeId) (W : World) (want : Array (String × TypeId)) (i : TypeInfo) (hu : Try.prog.underlying T = some (.interface want)) (hi : Try.prog.info? t = some i) (hm : Instr.missingMethod want i.methods = none) : (Instr.typeAssert (.iface t v) x T true).run Try.prog W = .ok (.tuple #[.iface t v, .bool true]) W := by
 simp [Instr.typeAssert, run_underlying hu, typeInfo, hi, hm, Result.andThen]
theorem missing_none (want : Array (String × TypeId)) (got : Array Method) (h : ((want.toList.filter fun (x : String × TypeId) => !got.any fun m => m.name == x.1 && m.sig == x.2).isEmpty) = true) : Instr.missingMethod want got = none := by
 unfold Instr.missingMethod
 simp only
 generalize hL : (want.toList.filter fun (x : String × TypeId) => match x with | (name, sig) => !got.any fun m => m.name == name && m.sig == sig) = L
 have hL' : L.isEmpty = true := by rw [← hL]; exact h
 cases L with
 | nil => rfl
 | cons a r => cases hL'
theorem unwrap_row (n : Nat) (v : Value) (W : World) : (method (n + 1) 109 v "Unwrap").run Try.prog W = .ok (88, v) W :=
 method_val n _ v _ _ true W (by kernel_rfl) (fun y => receiver_ptr _ v W y (by kernel_rfl))
theorem assert_join (v : Value) (W : World) : (Instr.typeAssert (.iface 109 v) 56 106 true).run Try.prog W = .ok (.tuple #[.iface 109 v, .bool true]) W := by
 have h : (match Try.prog.underlying 106, Try.prog.info? 109 with | some (.interface want), some i => ((want.toList.filter fun (x : String × TypeId) => !i.methods.any fun m => m.name == x.1 && m.sig == x.2).isEmpty) | _, _ => false) = true := by kernel_rfl
 cases hu : Try.prog.underlying 106 with
 | none => rw [hu] at h; simp at h
 | some d =>
  cases hi : Try.prog.info? 109 with
  | none => rw [hu, hi] at h; cases d <;> simp at h
  | some i =>
   rw [hu, hi] at h
   cases d with
   | interface want => exact assert_has _ _ _ _ W want i hu hi (missing_none want i.methods h)
   | _ => simp at h
set_option maxRecDepth 100000 in
set_option maxHeartbeats 4000000 in
theorem is_join (gj ga : Nat) (cap : Nat) (u : Value) (c d : Int) (w : World) (hj : w.cell? ⟨gj, 0, none⟩ = some (.slice (some ⟨ga, 0, none⟩) 2 cap)) (h0 : w.cell? ⟨ga, 0, none⟩ = some (.iface 112 u)) (h1 : w.cell? ⟨ga, 1, none⟩ = some (.iface 26 (.int .i64 c))) :
  Calls Try.prog 45 #[.iface 109 (.pointer (some ⟨gj, 0, none⟩)), .iface 26 (.int .i64 d), .bool true] w fun e w' => e = .returned (.bool (c == d)) ∧ Drawn0 w w' := by
 have heq : ∀ W : World, _ := fun W => eq_other 109 (.pointer (some ⟨gj, 0, none⟩)) d W (by decide)
 have ha1 : ∀ W : World, _ := fun W => assert_is 109 (.pointer (some ⟨gj, 0, none⟩)) W (by kernel_rfl)
 have ha2 : ∀ W : World, _ := fun W => assert_un 109 (.pointer (some ⟨gj, 0, none⟩)) W (by kernel_rfl)
 have ha3 := assert_join (.pointer (some ⟨gj, 0, none⟩))
 have hM := unwrap_row
 go_enter Try.func45, Try.ntmps45
 go_wp2
 go_loopg [0] 1 (fun kq v0 w' => v0 = .iface 109 (.pointer (some ⟨gj, 0, none⟩)) ∧ w' = w)
 case atStart => exact ⟨rfl, rfl⟩
 case round =>
  obtain ⟨rfl, rfl⟩ := hrel
  go_wp2_with fail
  refine (join_Unwrap gj _ _ hj).mono ?_
  rintro e w' ⟨rfl, ⟨nd, rfl⟩⟩
  go_wp2
  go_loopg [45] 3 (fun kq v45 w' => ∃ x45 : Int, v45 = .int .i64 x45 ∧ Aside0 ((x45 = 0 ∧ kq = 3) ∨ (x45 = 1 ∧ kq = 2) ∨ (x45 = 2 ∧ kq = 1 ∧ (c == d) = false)) ∧ Drawn0 wr w')
  case atStart => exact ⟨0, rfl, ⟨.inl ⟨rfl, rfl⟩⟩, ⟨_, rfl⟩⟩
  case round =>
   obtain ⟨x45, rfl, ⟨hc⟩, ⟨nd2, rfl⟩⟩ := hrel
   rcases hc with ⟨rfl, rfl⟩ | ⟨rfl, rfl⟩ | ⟨rfl, rfl, hcd⟩
   ·go_wp2_with fail
    refine (is_text u d _).mono ?_
    rintro e w' ⟨rfl, ⟨nd3, rfl⟩⟩
    go_wp2
    go_roundg 2
    exact ⟨1, rfl, ⟨.inr (.inl ⟨rfl, rfl⟩)⟩, by repeat (first | exact Drawn0.refl _ | apply Drawn0.step)⟩
    omega
   ·go_wp2_with fail
    refine (is_code c d _).mono ?_
    rintro e w' ⟨rfl, ⟨nd3, rfl⟩⟩
    cases hcd : (c == d)
    ·go_wp2
     go_roundg 1
     exact ⟨2, rfl, ⟨.inr (.inr ⟨rfl, rfl, hcd⟩)⟩, by repeat (first | exact Drawn0.refl _ | apply Drawn0.step)⟩
     omega
    ·go_wp2
     go_ret
     exact ⟨by rw [hcd]; rfl, by repeat (first | exact Drawn0.refl _ | apply Drawn0.step)⟩
   ·go_wp2
    go_ret
    exact ⟨by rw [hcd]; rfl, by repeat (first | exact Drawn0.refl _ | apply Drawn0.step)⟩
theorem eq_nil (t : TypeId) (v : Value) (W : World) : (binOp .eql 56 (.iface t v) .nilIface).run Try.prog W = .ok (.bool false) W := by
 have hi : Try.prog.underlying 56 = some (.interface (Try.prog.methodsAt 56)) := by kernel_rfl
 have h : ∀ n : Nat, (Op.equalIn (n + 2) 56 (.iface t v) .nilIface).run Try.prog W = .ok false W := fun n => by
  simp [Op.equalIn, run_underlying hi]
 simp only [binOp]
 simp [Op.equal, Op.maxDepth, h 9998]
theorem eq_nils (W : World) : (binOp .eql 56 .nilIface .nilIface).run Try.prog W = .ok (.bool true) W := by
 have hi : Try.prog.underlying 56 = some (.interface (Try.prog.methodsAt 56)) := by kernel_rfl
 have h : ∀ n : Nat, (Op.equalIn (n + 2) 56 .nilIface .nilIface).run Try.prog W = .ok true W := fun n => by
  simp [Op.equalIn, run_underlying hi]
 simp only [binOp]
 simp [Op.equal, Op.maxDepth, h 9998]
theorem eq_nil' (t : TypeId) (v : Value) (W : World) : (binOp .eql 56 .nilIface (.iface t v)).run Try.prog W = .ok (.bool false) W := by
 have hi : Try.prog.underlying 56 = some (.interface (Try.prog.methodsAt 56)) := by kernel_rfl
 have h : ∀ n : Nat, (Op.equalIn (n + 2) 56 .nilIface (.iface t v)).run Try.prog W = .ok false W := fun n => by
  simp [Op.equalIn, run_underlying hi]
 simp only [binOp]
 simp [Op.equal, Op.maxDepth, h 9998]
set_option maxRecDepth 100000 in
set_option maxHeartbeats 4000000 in
theorem New_calls (s : ByteArray) (w : World) : Calls Try.prog 47 #[.string s] w fun e w' => ∃ u, e = .returned (.iface 112 u) ∧ Below w.heap.size w w' := by
 have HB := as_ (Below.refl w.heap.size w)
 go_enter Try.func47, Try.ntmps47
 go_wp2
 go_ret
 exact ⟨_, rfl, by repeat (first | exact HB.out | apply below_alloc | apply pw_below_drewN | apply below_drew1)⟩
theorem cell_lt {w : World} {a : Addr} {v : Value} (h : w.cell? a = some v) : a.block < w.heap.size := by
 rcases Nat.lt_or_ge a.block w.heap.size with h' | h'
 ·exact h'
 ·simp [World.cell?, Array.getElem?_eq_none h'] at h
theorem make_errs (W : World) : (Instr.makeSlice 107 (.int .i64 0) (.int .i64 2)).run Try.prog W = .ok (.slice (some ⟨W.heap.size, 0, none⟩) 0 2) (W.alloc (.cells #[.nilIface, .nilIface] 56)) := by
 have hu : Try.prog.underlying 107 = some (.slice 56) := by kernel_rfl
 have h : (Try.prog.info? 56).map (fun i => (i.zero, i.size, i.bytes)) = some (some .nilIface, 1, 16) := by kernel_rfl
 cases hi : Try.prog.info? 56 with
 | none => rw [hi] at h; cases h
 | some i =>
  rw [hi] at h
  simp only [Option.map_some, Option.some.injEq, Prod.mk.injEq] at h
  have hr := run_makeSlice (P := Try.prog) (w := W) 107 56 i .nilIface hu hi h.1 .i64 .i64 0 2 (by decide) (by decide) (by rw [h.2.1]; decide) (by rw [h.2.2]; decide) (by decide)
  have hm : madeCells Value.nilIface.cells (Int.toNat 2 * 1) = #[.nilIface, .nilIface] := by kernel_rfl
  rw [hr, h.2.1, hm]
  rfl
set_option maxRecDepth 100000 in
set_option maxHeartbeats 4000000 in
theorem Join_calls (ga : Nat) (u : Value) (c : Int) (w : World) (h0 : w.cell? ⟨ga, 0, none⟩ = some (.iface 112 u)) (h1 : w.cell? ⟨ga, 1, none⟩ = some (.iface 26 (.int .i64 c))) :
  Calls Try.prog 46 #[.slice (some ⟨ga, 0, none⟩) 2 2] w fun e w' => ∃ gj gb cap u2, e = .returned (.iface 109 (.pointer (some ⟨gj, 0, none⟩))) ∧ w'.cell? ⟨gj, 0, none⟩ = some (.slice (some ⟨gb, 0, none⟩) 2 cap) ∧ w'.cell? ⟨gb, 0, none⟩ = some (.iface 112 u2) ∧ w'.cell? ⟨gb, 1, none⟩ = some (.iface 26 (.int .i64 c)) ∧ gj < w'.heap.size ∧ gb < w'.heap.size ∧ Below w.heap.size w w' := by
 have HB := as_ (Below.refl w.heap.size w)
 have hn := eq_nil
 have hmk := make_errs
 go_enter Try.func46, Try.ntmps46
 go_wp2
 go_loopg [3, 11] 3 (fun kq v3 v11 w' => ∃ x11 : Int, v3 = .int .i64 x11 ∧ v11 = .int .i64 x11 ∧ Aside0 ((x11 = 0 ∧ kq = 3) ∨ (x11 = 1 ∧ kq = 2) ∨ (x11 = 2 ∧ kq = 1)) ∧ Drawn0 w w')
 case atStart => exact ⟨0, rfl, rfl, ⟨.inl ⟨rfl, rfl⟩⟩, ⟨0, rfl⟩⟩
 case round =>
  obtain ⟨x11, rfl, rfl, ⟨hc⟩, ⟨nd2, rfl⟩⟩ := hrel
  rcases hc with ⟨rfl, rfl⟩ | ⟨rfl, rfl⟩ | ⟨rfl, rfl⟩
  ·go_wp2
   go_roundg 2
   exact ⟨1, rfl, rfl, ⟨.inr (.inl ⟨rfl, rfl⟩)⟩, by repeat (first | exact Drawn0.refl _ | apply Drawn0.step)⟩
   omega
  ·go_wp2
   go_roundg 1
   exact ⟨2, rfl, rfl, ⟨.inr (.inr ⟨rfl, rfl⟩)⟩, by repeat (first | exact Drawn0.refl _ | apply Drawn0.step)⟩
   omega
  ·go_wp2
   go_loopg [28] 3 (fun kq v28 w' => ∃ x28 : Int, v28 = .int .i64 x28 ∧ Aside0 (Below w.heap.size w w' ∧ w.heap.size + 1 < w'.heap.size ∧ w'.frozen? ⟨w.heap.size, 0, none⟩ = false ∧ w'.frozen? ⟨w.heap.size, 1, none⟩ = false ∧ w'.frozen? ⟨w.heap.size + 1, 0, none⟩ = false) ∧ w'.cell? ⟨ga, 0, none⟩ = some (.iface 112 u) ∧ w'.cell? ⟨ga, 1, none⟩ = some (.iface 26 (.int .i64 c)) ∧
    ((x28 = 0 ∧ kq = 3 ∧ w'.cell? ⟨w.heap.size + 1, 0, none⟩ = some (.slice (some ⟨w.heap.size, 0, none⟩) 0 2) ∧ w'.cell? ⟨w.heap.size, 0, none⟩ = some .nilIface ∧ w'.cell? ⟨w.heap.size, 1, none⟩ = some .nilIface) ∨
     (x28 = 1 ∧ kq = 2 ∧ w'.cell? ⟨w.heap.size + 1, 0, none⟩ = some (.slice (some ⟨w.heap.size, 0, none⟩) 1 2) ∧ w'.cell? ⟨w.heap.size, 0, none⟩ = some (.iface 112 u) ∧ w'.cell? ⟨w.heap.size, 1, none⟩ = some .nilIface) ∨
     (x28 = 2 ∧ kq = 1 ∧ w'.cell? ⟨w.heap.size + 1, 0, none⟩ = some (.slice (some ⟨w.heap.size, 0, none⟩) 2 2) ∧ w'.cell? ⟨w.heap.size, 0, none⟩ = some (.iface 112 u) ∧ w'.cell? ⟨w.heap.size, 1, none⟩ = some (.iface 26 (.int .i64 c)))))
   case atStart =>
    have hb2 : ga < w.heap.size := cell_lt h0
    have hb3 : ga ≠ w.heap.size := Nat.ne_of_lt hb2
    have hb4 : ga ≠ w.heap.size + 1 := by omega
    have hb5 : ga < w.heap.size + 1 := by omega
    refine ⟨0, rfl, ⟨⟨?_, ?_, ?_, ?_, ?_⟩⟩, ?_, ?_, .inl ⟨rfl, rfl, ?_, ?_, ?_⟩⟩
    ·exact Below.alloc (Below.alloc (pw_below_drewN HB.out _) (Nat.le_refl _) _) (by simp) _
    ·simp
    ·simp [go_sem]; exact World.frozen?_alloc_new (w := w.drewN nd2) _ _ _
    ·simp [go_sem]; exact World.frozen?_alloc_new (w := w.drewN nd2) _ _ _
    ·simp [go_sem]
    ·simp [go_sem, *]; exact (World.cell?_alloc_lt (w.drewN nd2) _ _ hb2).trans h0
    ·simp [go_sem, *]; exact (World.cell?_alloc_lt (w.drewN nd2) _ _ hb2).trans h1
    ·simp [go_sem]
    ·simp [go_sem]; exact World.cell?_alloc_new (w := w.drewN nd2) _ _ 0
    ·simp [go_sem]; exact World.cell?_alloc_new (w := w.drewN nd2) _ _ 1
   case round =>
    obtain ⟨x28, rfl, ⟨HB2, hsz, f0, f1, f2⟩, g0, g1, hc⟩ := hrel
    have hb0 : w.heap.size < wr.heap.size := by omega
    have hb2 : ga < wr.heap.size := cell_lt g0
    have hb3 : ga ≠ w.heap.size := Nat.ne_of_lt (cell_lt h0)
    have hb4 : ga ≠ w.heap.size + 1 := by have := cell_lt h0; simp only at this; omega
    have HB3 := Aside0.mk HB2
    clear HB2
    rcases hc with ⟨rfl, rfl, hx, hr0, hr1⟩ | ⟨rfl, rfl, hx, hr0, hr1⟩ | ⟨rfl, rfl, hx, hr0, hr1⟩
    ·go_wp2
     go_roundg 2
     ·refine ⟨1, rfl, ⟨⟨?_, ?_, ?_, ?_, ?_⟩⟩, ?_, ?_, .inr (.inl ⟨rfl, rfl, ?_, ?_, ?_⟩)⟩
      ·exact Below.alloc (Below.setCell (Below.setCell HB3.out (p := ⟨w.heap.size, 0, none⟩) (Nat.le_refl _) _) (p := ⟨w.heap.size + 1, 0, none⟩) (Nat.le_succ _) _) (by simp only [World.size_setCell]; omega) _
      ·simp only [World.size_alloc, World.size_setCell]
       omega
      all_goals
       simp [go_sem, *]
     ·omega
    ·go_wp2
     go_roundg 1
     ·refine ⟨2, rfl, ⟨⟨?_, ?_, ?_, ?_, ?_⟩⟩, ?_, ?_, .inr (.inr ⟨rfl, rfl, ?_, ?_, ?_⟩)⟩
      ·exact Below.alloc (Below.setCell (Below.setCell HB3.out (p := ⟨w.heap.size, 1, none⟩) (Nat.le_refl _) _) (p := ⟨w.heap.size + 1, 0, none⟩) (Nat.le_succ _) _) (by simp only [World.size_setCell]; omega) _
      ·simp only [World.size_alloc, World.size_setCell]
       omega
      all_goals
       simp [go_sem, *]
     ·omega
    ·go_wp2
     go_ret
     exact ⟨w.heap.size + 1, w.heap.size, 2, u, rfl, hx, hr0, hr1, by omega, by omega, HB3.out⟩
set_option maxRecDepth 100000 in
set_option maxHeartbeats 4000000 in
theorem fault_calls (s : ByteArray) (c : Int) (w : World) : Calls Try.prog 34 #[.int .i64 c, .string s] w fun e w' => ∃ gj gb cap u2, e = .returned (.iface 109 (.pointer (some ⟨gj, 0, none⟩))) ∧ w'.cell? ⟨gj, 0, none⟩ = some (.slice (some ⟨gb, 0, none⟩) 2 cap) ∧ w'.cell? ⟨gb, 0, none⟩ = some (.iface 112 u2) ∧ w'.cell? ⟨gb, 1, none⟩ = some (.iface 26 (.int .i64 c)) ∧ gj < w'.heap.size ∧ gb < w'.heap.size ∧ Below w.heap.size w w' := by
 have HB := as_ (Below.refl w.heap.size w)
 go_enter Try.func34, Try.ntmps34
 go_wp2_with fail
 refine (New_calls s _).mono ?_
 rintro e w1 ⟨u, rfl, hb1⟩
 have HB1 := as_ (HB.out.trans hb1)
 clear hb1
 go_wp2_with fail
 refine (Join_calls _ u c _ ?_ ?_).mono ?_
 ·simp [go_sem]
 ·simp [go_sem]
 rintro e w2 ⟨gj, gb, cap, u2, rfl, j1, j2, j3, j4, j5, hb2⟩
 have HB2 := as_ ((Below.alloc HB1.out HB1.out.size _).trans (hb2.mono (by simp; exact Nat.le_succ_of_le HB1.out.size)))
 clear hb2
 go_wp2
 go_ret
 exact ⟨gj, gb, cap, u2, rfl, j1, j2, j3, j4, j5, HB2.out⟩
def Errs (v : Value) (c : Int) (w : World) : Prop := (c = 0 ∧ v = .nilIface) ∨ (c ≠ 0 ∧ ∃ gj gb cap u2, v = .iface 109 (.pointer (some ⟨gj, 0, none⟩)) ∧ w.cell? ⟨gj, 0, none⟩ = some (.slice (some ⟨gb, 0, none⟩) 2 cap) ∧ w.cell? ⟨gb, 0, none⟩ = some (.iface 112 u2) ∧ w.cell? ⟨gb, 1, none⟩ = some (.iface 26 (.int .i64 c)))
theorem Errs.below {v : Value} {c : Int} {w W : World} {n : Nat} (h : Errs v c w) (hn : w.heap.size ≤ n) (hb : Below n w W) : Errs v c W := by
 rcases h with h | ⟨hc, gj, gb, cap, u2, rfl, h1, h2, h3⟩
 ·exact .inl h
 ·have l1 := cell_lt h1
  have l2 := cell_lt h2
  have l3 := cell_lt h3
  exact .inr ⟨hc, gj, gb, cap, u2, rfl, (hb.cell (Nat.lt_of_lt_of_le l1 hn)).trans h1, (hb.cell (Nat.lt_of_lt_of_le l2 hn)).trans h2, (hb.cell (Nat.lt_of_lt_of_le l3 hn)).trans h3⟩
set_option maxRecDepth 100000 in
set_option maxHeartbeats 4000000 in
theorem Is_nil (d : Int) (w : World) : Calls Try.prog 33 #[.nilIface, .iface 26 (.int .i64 d)] w fun e w' => e = .returned (.bool false) ∧ Below w.heap.size w w' := by
 have HB := as_ (Below.refl w.heap.size w)
 have h1 := eq_nil' 26 (.int .i64 d)
 have h2 := eq_nils
 go_enter Try.func33, Try.ntmps33
 go_wp2
 go_ret
 exact ⟨rfl, by repeat (first | exact HB.out | apply below_alloc | apply pw_below_drewN | apply below_drew1)⟩
theorem Is_any (v : Value) (c d : Int) (hd : d ≠ 0) (w : World) (h : Errs v c w) : Calls Try.prog 33 #[v, .iface 26 (.int .i64 d)] w fun e w' => e = .returned (.bool (c == d)) ∧ Below w.heap.size w w' := by
 rcases h with ⟨rfl, rfl⟩ | ⟨hc, gj, gb, cap, u2, rfl, h1, h2, h3⟩
 ·have hf : ((0 : Int) == d) = false := by simpa using fun h => hd h.symm
  rw [hf]
  exact Is_nil d w
 ·refine Is_leaf _ _ d _ w (eq_nil _ _) (eq_nil _ _) (fun W hb => ?_)
  exact is_join gj gb cap u2 c d W ((hb.cell (cell_lt h1)).trans h1) ((hb.cell (cell_lt h2)).trans h2) ((hb.cell (cell_lt h3)).trans h3)
set_option maxRecDepth 100000 in
set_option maxHeartbeats 4000000 in
theorem number_calls (v : Value) (c : Int) (hc : c = 0 ∨ c = 4 ∨ c = 3 ∨ c = 8) (w : World) (h : Errs v c w) : Calls Try.prog 20 #[v] w fun e w' => e = .returned (.int .i64 c) ∧ Below w.heap.size w w' := by
 have HB := as_ (Below.refl w.heap.size w)
 go_enter Try.func20, Try.ntmps20
 go_wp2
 go_loopg [7] 4 (fun kq v7 w' => ∃ x7 : Int, v7 = .int .i64 x7 ∧ Aside0 (Below w.heap.size w w' ∧ Errs v c w') ∧ w'.cell? ⟨w.heap.size, 0, none⟩ = some (.int .i64 4) ∧ w'.cell? ⟨w.heap.size, 1, none⟩ = some (.int .i64 3) ∧ w'.cell? ⟨w.heap.size, 2, none⟩ = some (.int .i64 8) ∧
  Aside0 ((x7 = 0 ∧ kq = 4) ∨ (x7 = 1 ∧ kq = 3 ∧ (c == 4) = false) ∨ (x7 = 2 ∧ kq = 2 ∧ (c == 4) = false ∧ (c == 3) = false) ∨ (x7 = 3 ∧ kq = 1 ∧ (c == 4) = false ∧ (c == 3) = false ∧ (c == 8) = false)))
 case atStart =>
  refine ⟨0, rfl, ⟨Below.alloc HB.out (Nat.le_refl _) _, h.below (Nat.le_refl _) (Below.alloc HB.out (Nat.le_refl _) _)⟩, ?_, ?_, ?_, ⟨.inl ⟨rfl, rfl⟩⟩⟩
  all_goals simp [go_sem]
 case round =>
  obtain ⟨x7, rfl, ⟨hb, he⟩, g0, g1, g2, ⟨hx⟩⟩ := hrel
  have HB2 := Aside0.mk hb
  clear hb
  rcases hx with ⟨rfl, rfl⟩ | ⟨rfl, rfl, c4⟩ | ⟨rfl, rfl, c4, c3⟩ | ⟨rfl, rfl, c4, c3, c8⟩
  ·go_wp2_with fail
   refine (Is_any v c 4 (by decide) _ he).mono ?_
   rintro e w' ⟨rfl, hb3⟩
   have g0' := (hb3.cell (cell_lt g0)).trans g0
   have g1' := (hb3.cell (cell_lt g1)).trans g1
   have g2' := (hb3.cell (cell_lt g2)).trans g2
   have he' := he.below (Nat.le_refl _) hb3
   have HB3 := as_ (HB2.out.trans (hb3.mono HB2.out.size))
   clear hb3
   cases hcd : (c == 4)
   ·go_wp2
    go_roundg 3
    ·exact ⟨1, rfl, ⟨HB3.out, he'⟩, g0', g1', g2', ⟨.inr (.inl ⟨rfl, rfl, hcd⟩)⟩⟩
    ·omega
   ·have hcd' : c = 4 := by simpa using hcd
    go_wp2
    go_ret
    exact ⟨by rw [hcd']; rfl, HB3.out⟩
  ·go_wp2_with fail
   refine (Is_any v c 3 (by decide) _ he).mono ?_
   rintro e w' ⟨rfl, hb3⟩
   have g0' := (hb3.cell (cell_lt g0)).trans g0
   have g1' := (hb3.cell (cell_lt g1)).trans g1
   have g2' := (hb3.cell (cell_lt g2)).trans g2
   have he' := he.below (Nat.le_refl _) hb3
   have HB3 := as_ (HB2.out.trans (hb3.mono HB2.out.size))
   clear hb3
   cases hcd : (c == 3)
   ·go_wp2
    go_roundg 2
    ·exact ⟨2, rfl, ⟨HB3.out, he'⟩, g0', g1', g2', ⟨.inr (.inr (.inl ⟨rfl, rfl, c4, hcd⟩))⟩⟩
    ·omega
   ·have hcd' : c = 3 := by simpa using hcd
    go_wp2
    go_ret
    exact ⟨by rw [hcd']; rfl, HB3.out⟩
  ·go_wp2_with fail
   refine (Is_any v c 8 (by decide) _ he).mono ?_
   rintro e w' ⟨rfl, hb3⟩
   have g0' := (hb3.cell (cell_lt g0)).trans g0
   have g1' := (hb3.cell (cell_lt g1)).trans g1
   have g2' := (hb3.cell (cell_lt g2)).trans g2
   have he' := he.below (Nat.le_refl _) hb3
   have HB3 := as_ (HB2.out.trans (hb3.mono HB2.out.size))
   clear hb3
   cases hcd : (c == 8)
   ·go_wp2
    go_roundg 1
    ·exact ⟨3, rfl, ⟨HB3.out, he'⟩, g0', g1', g2', ⟨.inr (.inr (.inr ⟨rfl, rfl, c4, c3, hcd⟩))⟩⟩
    ·omega
   ·have hcd' : c = 8 := by simpa using hcd
    go_wp2
    go_ret
    exact ⟨by rw [hcd']; rfl, HB3.out⟩
  ·have c0 : c = 0 := by
    rcases hc with h | h | h | h
    ·exact h
    all_goals (subst h; simp at c4 c3 c8)
   go_wp2
   go_ret
   exact ⟨by rw [c0]; rfl, HB2.out⟩
def head_may.sized (p : Int) : Bool := decide (p = 128) || decide (p = 256) || decide (p = 512) || decide (p = 1024)
def head_may.right (a0_0 a0_1 a0_2 a0_3 a0_4 : Int) : Bool := decide (a0_0 ≥ 1) && decide (a0_0 < 5) && decide (0 ≤ a0_1) && decide (a0_1 < 256) && decide (0 ≤ a0_2) && decide (a0_2 < 65536) && decide (0 ≤ a0_3) && decide (a0_3 < 4096) && decide (0 ≤ a0_4) && decide (a0_4 < 4096)
def head_may.code (a0_0 a0_1 a0_2 a0_3 a0_4 : Int) (body : ByteArray) (p : Int) : Int := if head_may.sized p = true then (if head_may.right a0_0 a0_1 a0_2 a0_3 a0_4 = true then (if p - 16 < (body.size : Int) then 8 else 0) else 3) else 4
def head_may.f (a0_0 a0_1 a0_2 a0_3 a0_4 : Int) (body : ByteArray) (p : Int) : Option Int := some (head_may.code a0_0 a0_1 a0_2 a0_3 a0_4 body p)
theorem within_one (b x : Int) : head_within.f 2 b [x] = some (decide (0 ≤ x) && decide (x < b)) := by
 simp only [head_within.f, head_within.l0, rd, List.length_cons, List.length_nil]
 by_cases h0 : x < 0 <;> by_cases h1 : x ≥ b <;> simp [h0, h1, wrap64] <;> omega
theorem within_two (b x y : Int) : head_within.f 3 b [x, y] = some (decide (0 ≤ x) && decide (x < b) && decide (0 ≤ y) && decide (y < b)) := by
 simp only [head_within.f, head_within.l0, rd, List.length_cons, List.length_nil]
 by_cases h0 : x < 0 <;> by_cases h1 : x ≥ b <;> by_cases h2 : y < 0 <;> by_cases h3 : y ≥ b <;> simp [h0, h1, h2, h3, wrap64] <;> omega
theorem right_eq (a0 a1 a2 a3 a4 : Int) : head_Right.f 3 a0 a1 a2 a3 a4 = some (head_may.right a0 a1 a2 a3 a4) := by
 have m : ∀ b x, head_within.f 3 b [x] = some (decide (0 ≤ x) && decide (x < b)) := fun b x => head_within.mono b [x] 2 _ (within_one b x)
 simp only [head_Right.f, m, within_two, head_may.right, Option.bind_some]
 by_cases h0 : a0 ≥ 1 <;> by_cases h1 : a0 < 5 <;> simp only [h0, h1, if_true, if_false, decide_true, decide_false, Bool.true_and, Bool.false_and]
 cases hA : (decide (0 ≤ a1) && decide (a1 < 256)) <;> cases hB : (decide (0 ≤ a2) && decide (a2 < 65536)) <;> simp_all <;> (intros; omega)
set_option maxRecDepth 100000 in
set_option maxHeartbeats 4000000 in
theorem head_may.calls (a0_0 a0_1 a0_2 a0_3 a0_4 : Int) (body : ByteArray) (p : Int) (r : Int) (w : World) (h : head_may.f a0_0 a0_1 a0_2 a0_3 a0_4 body p = some r) :
  Calls Try.prog 21 #[.agg #[.int .i64 a0_0, .int .i64 a0_1, .int .i64 a0_2, .int .i64 a0_3, .int .i64 a0_4], .string body, .int .i64 p] w fun e w' => ∃ v, e = .returned v ∧ Errs v r w' ∧ (r = 0 ∨ r = 4 ∨ r = 3 ∨ r = 8) ∧ Below w.heap.size w w' := by
 have HB := as_ (Below.refl w.heap.size w)
 have H := as_ (Option.some.inj h)
 clear h
 have hu23 := Try.underlying23
 go_enter Try.func21, Try.ntmps21
 go_wp2_with fail
 refine (disk_Size.calls p (head_may.sized p) _ rfl).mono ?_
 rintro e w1 ⟨rfl, hb⟩
 have HB1 := as_ ((Below.alloc HB.out (Nat.le_refl _) _).trans (hb.mono (by simp)))
 have c0 : w1.cell? ⟨w.heap.size, 0, none⟩ = some (.int .i64 a0_0) := (hb.cell (p := ⟨w.heap.size, 0, none⟩) (by simp)).trans (World.cell?_alloc_new w _ _ 0)
 have c1 : w1.cell? ⟨w.heap.size, 1, none⟩ = some (.int .i64 a0_1) := (hb.cell (p := ⟨w.heap.size, 1, none⟩) (by simp)).trans (World.cell?_alloc_new w _ _ 1)
 have c2 : w1.cell? ⟨w.heap.size, 2, none⟩ = some (.int .i64 a0_2) := (hb.cell (p := ⟨w.heap.size, 2, none⟩) (by simp)).trans (World.cell?_alloc_new w _ _ 2)
 have c3 : w1.cell? ⟨w.heap.size, 3, none⟩ = some (.int .i64 a0_3) := (hb.cell (p := ⟨w.heap.size, 3, none⟩) (by simp)).trans (World.cell?_alloc_new w _ _ 3)
 have c4 : w1.cell? ⟨w.heap.size, 4, none⟩ = some (.int .i64 a0_4) := (hb.cell (p := ⟨w.heap.size, 4, none⟩) (by simp)).trans (World.cell?_alloc_new w _ _ 4)
 cases hs : head_may.sized p
 ·go_wp2_with fail
  refine (fault_calls _ 4 _).mono ?_
  rintro e w2 ⟨gj, gb, cap, u2, rfl, j1, j2, j3, j4, j5, hb2⟩
  have hr : r = 4 := by rw [← H.out]; simp [head_may.code, hs]
  have HB2 := as_ (HB1.out.trans (hb2.mono (HB1.out.size)))
  clear hb2 
  go_wp2
  go_ret
  exact ⟨_, rfl, .inr ⟨by omega, gj, gb, cap, u2, rfl, j1, j2, by rw [hr]; exact j3⟩, by omega, HB2.out⟩
 ·go_wp2_with fail
  refine (head_Right.calls 3 a0_0 a0_1 a0_2 a0_3 a0_4 _ _ (right_eq _ _ _ _ _)).mono ?_
  rintro e w2 ⟨rfl, hb2⟩
  have HB2 := as_ (HB1.out.trans (hb2.mono (HB1.out.size)))
  clear hb2
  cases hR : head_may.right a0_0 a0_1 a0_2 a0_3 a0_4
  ·go_wp2_with fail
   refine (fault_calls _ 3 _).mono ?_
   rintro e w3 ⟨gj, gb, cap, u2, rfl, j1, j2, j3, j4, j5, hb3⟩
   have hr : r = 3 := by rw [← H.out]; simp [head_may.code, hs, hR]
   have HB3 := as_ (HB2.out.trans (hb3.mono (HB2.out.size)))
   clear hb3
   go_wp2
   go_ret
   exact ⟨_, rfl, .inr ⟨by omega, gj, gb, cap, u2, rfl, j1, j2, by rw [hr]; exact j3⟩, by omega, HB3.out⟩
  ·have hp : p = 128 ∨ p = 256 ∨ p = 512 ∨ p = 1024 := by simpa [head_may.sized, or_assoc] using hs
   have hw1 : (IntKind.i64.wrap (p - 16)) = p - 16 := by rw [IntKind.wrap_i64]; omega
   cases hL : decide (p - 16 < (body.size : Int))
   ·have hL' : ¬ p - 16 < (body.size : Int) := of_decide_eq_false hL
    have hr : r = 0 := by rw [← H.out]; simp only [head_may.code, hs, hR, if_true, if_neg hL']
    go_wp2
    go_ret
    exact ⟨_, rfl, .inl ⟨hr, rfl⟩, .inl hr, HB2.out⟩
   ·have hL' : p - 16 < (body.size : Int) := of_decide_eq_true hL
    have hr : r = 8 := by rw [← H.out]; simp only [head_may.code, hs, hR, if_true, if_pos hL']
    go_wp2_with fail
    refine (fault_calls _ 8 _).mono ?_
    rintro e w3 ⟨gj, gb, cap, u2, rfl, j1, j2, j3, j4, j5, hb3⟩
    have HB3 := as_ (HB2.out.trans (hb3.mono (HB2.out.size)))
    clear hb3
    go_wp2
    go_ret
    exact ⟨_, rfl, .inr ⟨by omega, gj, gb, cap, u2, rfl, j1, j2, by rw [hr]; exact j3⟩, by omega, HB3.out⟩
theorem head_may.calls2 (v : Value) (c : Int) (hc : c = 0 ∨ c = 4 ∨ c = 3 ∨ c = 8) (w : World) (h : Errs v c w) : Calls Try.prog 20 #[v] w fun e w' => e = .returned (.int .i64 c) ∧ Below w.heap.size w w' := number_calls v c hc w h


end Go.Proofs.Ytnfnmjjdcaphjaa.P
