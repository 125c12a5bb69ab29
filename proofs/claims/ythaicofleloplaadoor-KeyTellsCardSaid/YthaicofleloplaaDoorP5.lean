/- What is proved here: for functions of the Go text, a Lean function each, and that the call comes to just what it answers. Conditions: as each contract names them. Written by wip/tools/myprint.py, a driver of the print of the kit. -/
import Derived.Test.YthaicofleloplaaDoorP0
import Derived.Test.YthaicofleloplaaDoorP4
import Derived.Test.YthaicofleloplaaDoorWAbbr
namespace Go.Proofs.YthaicofleloplaaDoor.P
open Go.RowKit Go.Proofs.YthaicofleloplaaDoorW.PrintWords Go.Proofs.YthaicofleloplaaDoorW.PrintLast Go.Proofs.YthaicofleloplaaDoorW.PrintMore Go.Proofs.YthaicofleloplaaDoorW.Abbr
-- PACKED
attribute [local go_sem] max2_int min2_int max_two min_two max_three min_three max_four min_four Go.Proofs.YthaicofleloplaaDoorLaws.str_leq Go.Proofs.YthaicofleloplaaDoorLaws.str_gtr Go.Proofs.YthaicofleloplaaDoorLaws.str_geq Go.Proofs.YthaicofleloplaaDoorLaws.max2_str Go.Proofs.YthaicofleloplaaDoorLaws.min2_str   -- for this text's walks alone
set_option linter.unusedVariables false
set_option linter.unusedSimpArgs false

/-! ### word_Put: function 41 -/
mutual
def word_Put.j1 : Nat → Int → Int → Option (ByteArray)
 | 0, _, _ => none
 | k + 1, x0, x3 => word_Put.l1 k x0 x3 (([(wrap64 (247 + x3)) % 256] : List Int)) x3 0
def word_Put.l1 : Nat → Int → Int → List Int → Int → Int → Option (ByteArray)
 | 0, _, _, _, _, _ => none
 | k + 1, x0, x3, x4, x55, x56 => if x56 < x55 then (if 0 ≤ (wrap64 (8 * (wrap64 ((wrap64 (x3 - 1)) - x56)))) then (if x4.length < 140737488355328 then (word_Put.l1 k x0 x3 (x4 ++ [(shr .u64 x0 (wrap64 (8 * (wrap64 ((wrap64 (x3 - 1)) - x56))))) % 256]) x55 (wrap64 (x56 + 1))) else (none)) else (none)) else (some (strOfNums x4))
def word_Put.l0 : Nat → Int → Int → Option (ByteArray)
 | 0, _, _ => none
 | k + 1, x0, x3 => if x3 < 8 then (if 0 ≤ (wrap64 (8 * x3)) then (if (shr .u64 x0 (wrap64 (8 * x3))) > 0 then (word_Put.l0 k x0 (wrap64 (x3 + 1))) else (word_Put.j1 k x0 x3)) else (none)) else (word_Put.j1 k x0 x3)
end
def word_Put.f (k : Nat) (a0 : Int) : Option (ByteArray) := if a0 ≤ 240 then (some (strOfNums (([(a0) % 256] : List Int)))) else (if a0 ≤ 2287 then (some (strOfNums (([(IntKind.u64.wrap (241 + ((IntKind.u64.wrap (a0 - 240)) / 256))) % 256, (IntKind.u64.wrap (a0 - 240)) % 256] : List Int)))) else (if a0 ≤ 67823 then (some (strOfNums (([249, ((IntKind.u64.wrap ((IntKind.u64.wrap (a0 - 2287)) - 1)) / 256) % 256, (IntKind.u64.wrap ((IntKind.u64.wrap (a0 - 2287)) - 1)) % 256] : List Int)))) else (word_Put.l0 k a0 3)))
theorem word_Put.mono_l : ∀ k, (∀ y0 y1, LeO (word_Put.j1 k y0 y1) (word_Put.j1 (k + 1) y0 y1)) ∧ (∀ y0 y1 y2 y3 y4, LeO (word_Put.l1 k y0 y1 y2 y3 y4) (word_Put.l1 (k + 1) y0 y1 y2 y3 y4)) ∧ (∀ y0 y1, LeO (word_Put.l0 k y0 y1) (word_Put.l0 (k + 1) y0 y1))
 | 0 => ⟨fun _ _ r h => by simp [word_Put.j1] at h, fun _ _ _ _ _ r h => by simp [word_Put.l1] at h, fun _ _ r h => by simp [word_Put.l0] at h⟩
 | k + 1 => by
  obtain ⟨ih0, ih1, ih2⟩ := word_Put.mono_l k
  refine ⟨?_, ?_, ?_⟩
  ·intro y0 y1
   unfold word_Put.j1
   repeat' first
   | (with_reducible exact ih0 _ _)
   | (with_reducible exact ih1 _ _ _ _ _)
   | (with_reducible exact ih2 _ _)
   | (with_reducible exact LeO.refl _)
   | (with_reducible exact LeO.none _)
   | (with_reducible refine LeO.ite ?_ ?_)
   | (with_reducible refine LeO.bind ?_ (fun _ => ?_))
   | exact ih0 _ _
   | exact ih1 _ _ _ _ _
   | exact ih2 _ _
   | exact LeO.none _
   | refine LeO.ite ?_ ?_
   | refine LeO.bind ?_ (fun _ => ?_)
  ·intro y0 y1 y2 y3 y4
   unfold word_Put.l1
   repeat' first
   | (with_reducible exact ih0 _ _)
   | (with_reducible exact ih1 _ _ _ _ _)
   | (with_reducible exact ih2 _ _)
   | (with_reducible exact LeO.refl _)
   | (with_reducible exact LeO.none _)
   | (with_reducible refine LeO.ite ?_ ?_)
   | (with_reducible refine LeO.bind ?_ (fun _ => ?_))
   | exact ih0 _ _
   | exact ih1 _ _ _ _ _
   | exact ih2 _ _
   | exact LeO.none _
   | refine LeO.ite ?_ ?_
   | refine LeO.bind ?_ (fun _ => ?_)
  ·intro y0 y1
   unfold word_Put.l0
   repeat' first
   | (with_reducible exact ih0 _ _)
   | (with_reducible exact ih1 _ _ _ _ _)
   | (with_reducible exact ih2 _ _)
   | (with_reducible exact LeO.refl _)
   | (with_reducible exact LeO.none _)
   | (with_reducible refine LeO.ite ?_ ?_)
   | (with_reducible refine LeO.bind ?_ (fun _ => ?_))
   | exact ih0 _ _
   | exact ih1 _ _ _ _ _
   | exact ih2 _ _
   | exact LeO.none _
   | refine LeO.ite ?_ ?_
   | refine LeO.bind ?_ (fun _ => ?_)
theorem word_Put.mono : ∀ a0 k, LeO (word_Put.f k a0) (word_Put.f (k + 1) a0) := by
 intro a0 k
 obtain ⟨ih0, ih1, ih2⟩ := word_Put.mono_l k
 unfold word_Put.f
 repeat' first
   | (with_reducible exact ih0 _ _)
   | (with_reducible exact ih1 _ _ _ _ _)
   | (with_reducible exact ih2 _ _)
   | (with_reducible exact LeO.refl _)
   | (with_reducible exact LeO.none _)
   | (with_reducible refine LeO.ite ?_ ?_)
   | (with_reducible refine LeO.bind ?_ (fun _ => ?_))
   | exact ih0 _ _
   | exact ih1 _ _ _ _ _
   | exact ih2 _ _
   | exact LeO.none _
   | refine LeO.ite ?_ ?_
   | refine LeO.bind ?_ (fun _ => ?_)
set_option maxHeartbeats 8000000 in
set_option maxRecDepth 100000 in
theorem word_Put.calls (k : Nat) (a0 : Int) (r : ByteArray) (w : World) (h : word_Put.f k a0 = some r) :
  Calls Tryd.prog 41 #[.int .u64 a0] w fun e w' => e = .returned (.string r) ∧ Below w.heap.size w w' := by
 have HB := as_ (Below.refl w.heap.size w)
 have H : (if a0 ≤ 240 then (some (strOfNums (([(a0) % 256] : List Int)))) else (if a0 ≤ 2287 then (some (strOfNums (([(IntKind.u64.wrap (241 + ((IntKind.u64.wrap (a0 - 240)) / 256))) % 256, (IntKind.u64.wrap (a0 - 240)) % 256] : List Int)))) else (if a0 ≤ 67823 then (some (strOfNums (([249, ((IntKind.u64.wrap ((IntKind.u64.wrap (a0 - 2287)) - 1)) / 256) % 256, (IntKind.u64.wrap ((IntKind.u64.wrap (a0 - 2287)) - 1)) % 256] : List Int)))) else (word_Put.l0 k a0 3)))) = some r := h
 clear h
 by_cases c2 : a0 ≤ 240
 ·rw [if_pos c2] at H
  have c2b0 : decide (a0 ≤ 240) = true := decide_eq_true c2
  clear c2
  obtain ⟨y121, hy121⟩ : ∃ y_ : List Int, y_ = (([(a0) % 256] : List Int)) := ⟨_, rfl⟩
  replace H : (some (strOfNums y121)) = some r := by first | (rw [hy121]; with_reducible exact H) | (have H2_ := (Option.bind_some _ _).symm.trans H; rw [hy121]; with_reducible exact H2_) | (have H2_ := (Option.bind_some _ _).symm.trans H; with_reducible exact H2_) | with_reducible exact H | (rw [hy121]; exact H) | exact H
  have Ny121 := Aside0.mk hy121
  clear hy121
  obtain rfl := Option.some.inj H
  go_enter Tryd.func41, Tryd.ntmps41
  go_wp2_with (first | ((with_reducible refine gate_dst (N := 11) rfl ?_); refine Kd.R_lit (Kd.int .u8) _ 5 ?hg (N := 11) ?hd (xs := ([(a0) % 256] : List Int)) (inner := [.int .u8 ((a0) % 256)]) (ok := fun _ => True) (okp := fun _ => True) ?hr ?hp (fun _ hk => hk) trivial (Below.refl _ _) (Nat.le_refl _) (by simp) ?_; (case hd => rfl); (case hg => rfl); (case hr => first | (go_simp; done) | (go_simp; rfl)); (case hp => exact (Reps.one (show Kd.M (Kd.int .u8) _ _ _ ((a0) % 256) [.int .u8 ((a0) % 256)] from rfl) (Reps.none _ _))); intro v122 w3 ho4 hb hg_ hnew_; clear hg_ hnew_; (first | rw [← Ny121.out] at ho4 | (simp only [Int.reduceToNat] at ho4; rw [← Ny121.out] at ho4)); have HO123 := as_ (Kd.R_lower ho4 (below_size bA)); replace HB := as_ (below_step bA hb); clear hb ho4; have hcv5 := own_string (P := Tryd.prog) Tryd.underlying45 Tryd.underlying5 Tryd.underlying9 (Kd.own_of_R HO123.out)))
  go_ret
  exact ⟨eW, by repeat (first | (with_reducible first | exact HB.out | apply below_alloc | apply pw_below_drewN | apply below_drew1) | exact HB.out)⟩
 rw [if_neg c2] at H
 have c2b0 : decide (a0 ≤ 240) = false := decide_eq_false c2
 clear c2
 by_cases c6 : a0 ≤ 2287
 ·rw [if_pos c6] at H
  have c6b0 : decide (a0 ≤ 2287) = true := decide_eq_true c6
  clear c6
  obtain ⟨y124, hy124⟩ : ∃ y_ : List Int, y_ = (([(IntKind.u64.wrap (241 + ((IntKind.u64.wrap (a0 - 240)) / 256))) % 256, (IntKind.u64.wrap (a0 - 240)) % 256] : List Int)) := ⟨_, rfl⟩
  replace H : (some (strOfNums y124)) = some r := by first | (rw [hy124]; with_reducible exact H) | (have H2_ := (Option.bind_some _ _).symm.trans H; rw [hy124]; with_reducible exact H2_) | (have H2_ := (Option.bind_some _ _).symm.trans H; with_reducible exact H2_) | with_reducible exact H | (rw [hy124]; exact H) | exact H
  have Ny124 := Aside0.mk hy124
  clear hy124
  obtain rfl := Option.some.inj H
  go_enter Tryd.func41, Tryd.ntmps41
  go_wp2_with (first | ((with_reducible refine gate_dst (N := 24) rfl ?_); refine Kd.R_lit (Kd.int .u8) _ 5 ?hg (N := 24) ?hd (xs := ([(IntKind.u64.wrap (241 + ((IntKind.u64.wrap (a0 - 240)) / 256))) % 256, (IntKind.u64.wrap (a0 - 240)) % 256] : List Int)) (inner := [.int .u8 ((IntKind.u64.wrap (241 + ((IntKind.u64.wrap (a0 - 240)) / 256))) % 256), .int .u8 ((IntKind.u64.wrap (a0 - 240)) % 256)]) (ok := fun _ => True) (okp := fun _ => True) ?hr ?hp (fun _ hk => hk) trivial (Below.refl _ _) (Nat.le_refl _) (by simp) ?_; (case hd => rfl); (case hg => rfl); (case hr => first | (go_simp; done) | (go_simp; rfl)); (case hp => exact (Reps.one (show Kd.M (Kd.int .u8) _ _ _ ((IntKind.u64.wrap (241 + ((IntKind.u64.wrap (a0 - 240)) / 256))) % 256) [.int .u8 ((IntKind.u64.wrap (241 + ((IntKind.u64.wrap (a0 - 240)) / 256))) % 256)] from rfl) (Reps.one (show Kd.M (Kd.int .u8) _ _ _ ((IntKind.u64.wrap (a0 - 240)) % 256) [.int .u8 ((IntKind.u64.wrap (a0 - 240)) % 256)] from rfl) (Reps.none _ _)))); intro v125 w7 ho8 hb hg_ hnew_; clear hg_ hnew_; (first | rw [← Ny124.out] at ho8 | (simp only [Int.reduceToNat] at ho8; rw [← Ny124.out] at ho8)); have HO126 := as_ (Kd.R_lower ho8 (below_size bA)); replace HB := as_ (below_step bA hb); clear hb ho8; have hcv9 := own_string (P := Tryd.prog) Tryd.underlying45 Tryd.underlying5 Tryd.underlying9 (Kd.own_of_R HO126.out)))
  go_ret
  exact ⟨eW, by repeat (first | (with_reducible first | exact HB.out | apply below_alloc | apply pw_below_drewN | apply below_drew1) | exact HB.out)⟩
 rw [if_neg c6] at H
 have c6b0 : decide (a0 ≤ 2287) = false := decide_eq_false c6
 clear c6
 by_cases c10 : a0 ≤ 67823
 ·rw [if_pos c10] at H
  have c10b0 : decide (a0 ≤ 67823) = true := decide_eq_true c10
  clear c10
  obtain ⟨y127, hy127⟩ : ∃ y_ : List Int, y_ = (([249, ((IntKind.u64.wrap ((IntKind.u64.wrap (a0 - 2287)) - 1)) / 256) % 256, (IntKind.u64.wrap ((IntKind.u64.wrap (a0 - 2287)) - 1)) % 256] : List Int)) := ⟨_, rfl⟩
  replace H : (some (strOfNums y127)) = some r := by first | (rw [hy127]; with_reducible exact H) | (have H2_ := (Option.bind_some _ _).symm.trans H; rw [hy127]; with_reducible exact H2_) | (have H2_ := (Option.bind_some _ _).symm.trans H; with_reducible exact H2_) | with_reducible exact H | (rw [hy127]; exact H) | exact H
  have Ny127 := Aside0.mk hy127
  clear hy127
  obtain rfl := Option.some.inj H
  go_enter Tryd.func41, Tryd.ntmps41
  go_wp2_with (first | ((with_reducible refine gate_dst (N := 38) rfl ?_); refine Kd.R_lit (Kd.int .u8) _ 5 ?hg (N := 38) ?hd (xs := ([249, ((IntKind.u64.wrap ((IntKind.u64.wrap (a0 - 2287)) - 1)) / 256) % 256, (IntKind.u64.wrap ((IntKind.u64.wrap (a0 - 2287)) - 1)) % 256] : List Int)) (inner := [.int .u8 249, .int .u8 (((IntKind.u64.wrap ((IntKind.u64.wrap (a0 - 2287)) - 1)) / 256) % 256), .int .u8 ((IntKind.u64.wrap ((IntKind.u64.wrap (a0 - 2287)) - 1)) % 256)]) (ok := fun _ => True) (okp := fun _ => True) ?hr ?hp (fun _ hk => hk) trivial (Below.refl _ _) (Nat.le_refl _) (by simp) ?_; (case hd => rfl); (case hg => rfl); (case hr => first | (go_simp; done) | (go_simp; rfl)); (case hp => exact (Reps.one (show Kd.M (Kd.int .u8) _ _ _ 249 [.int .u8 249] from rfl) (Reps.one (show Kd.M (Kd.int .u8) _ _ _ (((IntKind.u64.wrap ((IntKind.u64.wrap (a0 - 2287)) - 1)) / 256) % 256) [.int .u8 (((IntKind.u64.wrap ((IntKind.u64.wrap (a0 - 2287)) - 1)) / 256) % 256)] from rfl) (Reps.one (show Kd.M (Kd.int .u8) _ _ _ ((IntKind.u64.wrap ((IntKind.u64.wrap (a0 - 2287)) - 1)) % 256) [.int .u8 ((IntKind.u64.wrap ((IntKind.u64.wrap (a0 - 2287)) - 1)) % 256)] from rfl) (Reps.none _ _))))); intro v128 w11 ho12 hb hg_ hnew_; clear hg_ hnew_; (first | rw [← Ny127.out] at ho12 | (simp only [Int.reduceToNat] at ho12; rw [← Ny127.out] at ho12)); have HO129 := as_ (Kd.R_lower ho12 (below_size bA)); replace HB := as_ (below_step bA hb); clear hb ho12; have hcv13 := own_string (P := Tryd.prog) Tryd.underlying45 Tryd.underlying5 Tryd.underlying9 (Kd.own_of_R HO129.out)))
  go_ret
  exact ⟨eW, by repeat (first | (with_reducible first | exact HB.out | apply below_alloc | apply pw_below_drewN | apply below_drew1) | exact HB.out)⟩
 rw [if_neg c10] at H
 have c10b0 : decide (a0 ≤ 67823) = false := decide_eq_false c10
 clear c10
 have HC14 := Aside0.mk H
 clear H
 go_enter Tryd.func41, Tryd.ntmps41
 go_upto_block 1 with (fail)
 go_cut [3] (fun v3 wc => ∃ (kq : Nat) (x3_13 : Int), v3 = .int .i64 x3_13 ∧ Aside0 (word_Put.j1 kq a0 x3_13 = some r) ∧ Aside0 (kq ≤ k) ∧ Aside0 (Below w.heap.size w wc))
 case first =>
  have H := HC14.out
  clear HC14
  have H' := Aside0.mk H
  clear H
  go_wp2
  go_loopg [3] k (fun kq v3 w' => ∃ (x3_1 : Int), v3 = .int .i64 x3_1 ∧ Aside0 (word_Put.l0 kq a0 x3_1 = some r) ∧ Aside0 (kq ≤ k) ∧ Aside0 (Below w.heap.size w w'))
  case atStart => exact ⟨(3), (by first | rfl | (simp; done) | (simp [*]; done)), H', ⟨Nat.le_refl _⟩, ⟨by repeat (first | (with_reducible first | exact HB.out | apply below_alloc | apply pw_below_drewN | apply below_drew1) | exact HB.out)⟩⟩
  case round =>
   clear H'
   try clear c1
   try clear hcv1
   try clear c2
   try clear c2b0
   try clear p2
   try clear c4
   try clear hcv5
   try clear c6
   try clear c6b0
   try clear hcv9
   try clear c10
   try clear c10b0
   try clear hcv13
   obtain ⟨x3_1, rfl, HA, HK1, HB⟩ := hrel
   cases gk with
   | zero => exact absurd HA.out (by simp [word_Put.l0])
   | succ k1 =>
    have H := HA.out
    clear HA
    simp only [word_Put.l0] at H
    by_cases c15 : x3_1 < 8
    rotate_left
    ·rw [if_neg c15] at H
     have c15b0 : decide (x3_1 < 8) = false := decide_eq_false c15
     clear c15
     (first | rw [c15b0] | (simp only [i64_w, i32_w]; rw [c15b0]) | rw [c15b1] | skip)
     have H' := Aside0.mk H
     clear H
     go_wp2
     go_meet
     case rel => exact ⟨_, (x3_1), (by first | rfl | (simp; done) | (simp [*]; done)), (by first | exact H' | (rw [hji18]; exact H') | (rw [hji16]; exact H')), ⟨by have := HK1.out; first | omega | exact Nat.le_refl _⟩, ⟨by repeat (first | (with_reducible first | exact HB.out | apply below_alloc | apply pw_below_drewN | apply below_drew1) | exact HB.out)⟩⟩
    rw [if_pos c15] at H
    have c15b0 : decide (x3_1 < 8) = true := decide_eq_true c15
    clear c15
    (first | rw [c15b0] | (simp only [i64_w, i32_w]; rw [c15b0]) | rw [c15b1] | skip)
    obtain ⟨ji16, hji16⟩ : ∃ j_ : Int, (wrap64 (8 * x3_1)) = j_ := ⟨_, rfl⟩
    replace H : (if 0 ≤ (ji16) then (if (shr .u64 a0 (ji16)) > 0 then (word_Put.l0 k1 a0 (wrap64 (x3_1 + 1))) else (word_Put.j1 k1 a0 x3_1)) else (none)) = some r := by first | (rw [hji16] at H; exact H) | (simp only [hji16] at H ⊢; exact H)
    have hji16w : (IntKind.i64.wrap (8 * x3_1)) = ji16 := (i64_w _).trans hji16
    by_cases c17 : 0 ≤ (ji16)
    rotate_left
    ·rw [if_neg c17] at H
     exact absurd H (by simp)
    rw [if_pos c17] at H
    have c17b0 := eq_true c17
    have c17b1 : decide (0 ≤ (ji16)) = true := decide_eq_true c17
    clear c17
    obtain ⟨ji18, hji18⟩ : ∃ j_ : Int, (shr .u64 a0 (ji16)) = j_ := ⟨_, rfl⟩
    replace H : (if (ji18) > 0 then (word_Put.l0 k1 a0 (wrap64 (x3_1 + 1))) else (word_Put.j1 k1 a0 x3_1)) = some r := by first | (rw [hji18] at H; exact H) | (simp only [hji18] at H ⊢; exact H)
    have hji18_ : (a0 / 2 ^ min (ji16).toNat 64) = ji18 := hji18
    have hji18z : (ji16) ≤ 64 → (a0 / 2 ^ (ji16).toNat) = ji18 := shr_small hji18
    by_cases c19 : (ji18) > 0
    rotate_left
    ·rw [if_neg c19] at H
     have c19b0 : decide (0 < (ji18)) = false := decide_eq_false c19
     clear c19
     have H' := Aside0.mk H
     clear H
     go_wp2
     go_meet
     case rel => exact ⟨_, (x3_1), (by first | rfl | (simp; done) | (simp [*]; done)), (by first | exact H' | (rw [hji18]; exact H') | (rw [hji16]; exact H')), ⟨by have := HK1.out; first | omega | exact Nat.le_refl _⟩, ⟨by repeat (first | (with_reducible first | exact HB.out | apply below_alloc | apply pw_below_drewN | apply below_drew1) | exact HB.out)⟩⟩
    rw [if_pos c19] at H
    have c19b0 : decide (0 < (ji18)) = true := decide_eq_true c19
    clear c19
    have H' := Aside0.mk H
    clear H
    go_wp2
    go_roundg k1
    case measure => have := HK1.out; omega
    case rel => exact ⟨(wrap64 (x3_1 + 1)), (by first | rfl | (simp; done) | (simp [*]; done)), (by first | exact H' | (rw [hji18]; exact H') | (rw [hji16]; exact H')), ⟨by have := HK1.out; omega⟩, ⟨by repeat (first | (with_reducible first | exact HB.out | apply below_alloc | apply pw_below_drewN | apply below_drew1) | exact HB.out)⟩⟩
 case rest =>
  clear HC14
  try clear c1
  try clear hcv1
  try clear c2
  try clear c2b0
  try clear p2
  try clear c4
  try clear hcv5
  try clear c6
  try clear c6b0
  try clear p6
  try clear hcv9
  try clear c10
  try clear c10b0
  try clear hcv13
  try clear c15
  try clear c15b0
  try clear c15b1
  try clear c17
  try clear c17b0
  try clear c17b1
  try clear c19
  try clear c19b0
  try clear p2
  obtain ⟨kq, x3_13, rfl, HA, HJ13, HB⟩ := hcut
  cases kq with
  | zero => exact absurd HA.out (by simp [word_Put.j1])
  | succ kj13 =>
   have H := HA.out
   clear HA
   simp only [word_Put.j1] at H
   obtain ⟨y130, hy130⟩ : ∃ y_ : List Int, y_ = (([(wrap64 (247 + x3_13)) % 256] : List Int)) := ⟨_, rfl⟩
   replace H : (word_Put.l1 kj13 a0 x3_13 y130 x3_13 0) = some r := by first | (rw [hy130]; with_reducible exact H) | (have H2_ := (Option.bind_some _ _).symm.trans H; rw [hy130]; with_reducible exact H2_) | (have H2_ := (Option.bind_some _ _).symm.trans H; with_reducible exact H2_) | with_reducible exact H | (rw [hy130]; exact H) | exact H
   have Ny130 := Aside0.mk hy130
   clear hy130
   have H' := Aside0.mk H
   clear H
   go_wp2_with (first | ((with_reducible refine gate_dst (N := 54) rfl ?_); refine Kd.R_lit (Kd.int .u8) _ 5 ?hg (N := 54) ?hd (xs := ([(wrap64 (247 + x3_13)) % 256] : List Int)) (inner := [.int .u8 ((wrap64 (247 + x3_13)) % 256)]) (ok := fun _ => True) (okp := fun _ => True) ?hr ?hp (fun _ hk => hk) trivial (Below.refl _ _) (Nat.le_refl _) (by simp) ?_; (case hd => rfl); (case hg => rfl); (case hr => first | (go_simp; done) | (go_simp; rfl)); (case hp => exact (Reps.one (show Kd.M (Kd.int .u8) _ _ _ ((wrap64 (247 + x3_13)) % 256) [.int .u8 ((wrap64 (247 + x3_13)) % 256)] from rfl) (Reps.none _ _))); intro v131 w20 ho21 hb hg_ hnew_; clear hg_ hnew_; (first | rw [← Ny130.out] at ho21 | (simp only [Int.reduceToNat] at ho21; rw [← Ny130.out] at ho21)); have HO132 := as_ (Kd.R_lower ho21 (below_size bA)); replace HB := as_ (below_step bA hb); clear hb ho21))
   go_loopg [4, 56] kj13 (fun kq v4 v56 w' => ∃ (x4_2 : List Int) (x56_2 : Int), v56 = .int .i64 x56_2 ∧ Aside0 (word_Put.l1 kq a0 x3_13 x4_2 x3_13 x56_2 = some r) ∧ Aside0 (kq ≤ kj13) ∧ Aside0 (Kd.R (Kd.int .u8) 5 w' w.heap.size (fun _ => True) v4 x4_2) ∧ Aside0 (Below w.heap.size w w'))
   case atStart => exact ⟨(y130), (0), (by first | rfl | (simp; done) | (simp [*]; done)), H', ⟨Nat.le_refl _⟩, ⟨by (with_reducible repeat (first | apply Kd.R_alloc | apply Kd.R_drewN | apply Kd.R_drew)); exact HO132.out⟩, ⟨by repeat (first | (with_reducible first | exact HB.out | apply below_alloc | apply pw_below_drewN | apply below_drew1) | exact HB.out)⟩⟩
   case round =>
    clear H'
    try clear c1
    try clear hcv1
    try clear c2
    try clear c2b0
    try clear p2
    try clear c4
    try clear hcv5
    try clear c6
    try clear c6b0
    try clear p6
    try clear hcv9
    try clear c10
    try clear c10b0
    try clear hcv13
    try clear c15
    try clear c15b0
    try clear c15b1
    try clear c17
    try clear c17b0
    try clear c17b1
    try clear c19
    try clear c19b0
    try clear p2
    try clear p6
    obtain ⟨x4_2, x56_2, rfl, HA, HK2, HO_4, HB⟩ := hrel
    cases gk with
    | zero => exact absurd HA.out (by simp [word_Put.l1])
    | succ k2 =>
     have H := HA.out
     clear HA
     simp only [word_Put.l1] at H
     by_cases c22 : x56_2 < x3_13
     rotate_left
     ·rw [if_neg c22] at H
      have c22b0 : decide (x56_2 < x3_13) = false := decide_eq_false c22
      clear c22
      obtain rfl := Option.some.inj H
      have hcv28 := own_string (P := Tryd.prog) Tryd.underlying45 Tryd.underlying5 Tryd.underlying9 (Kd.own_of_R HO_4.out)
      go_wp2
      go_ret
      exact ⟨eW, by repeat (first | (with_reducible first | exact HB.out | apply below_alloc | apply pw_below_drewN | apply below_drew1) | exact HB.out)⟩
 
     rw [if_pos c22] at H
     have c22b0 : decide (x56_2 < x3_13) = true := decide_eq_true c22
     clear c22
     obtain ⟨ji23, hji23⟩ : ∃ j_ : Int, (wrap64 (8 * (wrap64 ((wrap64 (x3_13 - 1)) - x56_2)))) = j_ := ⟨_, rfl⟩
     replace H : (if 0 ≤ (ji23) then (if x4_2.length < 140737488355328 then (word_Put.l1 k2 a0 x3_13 (x4_2 ++ [(shr .u64 a0 (ji23)) % 256]) x3_13 (wrap64 (x56_2 + 1))) else (none)) else (none)) = some r := by first | (rw [hji23] at H; exact H) | (simp only [hji23] at H ⊢; exact H)
     have hji23w : (IntKind.i64.wrap (8 * (wrap64 ((wrap64 (x3_13 - 1)) - x56_2)))) = ji23 := (i64_w _).trans hji23
     by_cases c24 : 0 ≤ (ji23)
     rotate_left
     ·rw [if_neg c24] at H
      exact absurd H (by simp)
     rw [if_pos c24] at H
     have c24b0 := eq_true c24
     have c24b1 : decide (0 ≤ (ji23)) = true := decide_eq_true c24
     clear c24
     obtain ⟨ji25, hji25⟩ : ∃ j_ : Int, (shr .u64 a0 (ji23)) = j_ := ⟨_, rfl⟩
     replace H : (if x4_2.length < 140737488355328 then (word_Put.l1 k2 a0 x3_13 (x4_2 ++ [(ji25) % 256]) x3_13 (wrap64 (x56_2 + 1))) else (none)) = some r := by first | (rw [hji25] at H; exact H) | (simp only [hji25] at H ⊢; exact H)
     have hji25_ : (a0 / 2 ^ min (ji23).toNat 64) = ji25 := hji25
     have hji25z : (ji23) ≤ 64 → (a0 / 2 ^ (ji23).toNat) = ji25 := shr_small hji25
     by_cases c26 : x4_2.length < 140737488355328
     rotate_left
     ·rw [if_neg c26] at H
      exact absurd H (by simp)
     rw [if_pos c26] at H
     have LMc26 := Aside0.mk c26
     clear c26
     obtain ⟨y133, hy133⟩ : ∃ y_ : List Int, y_ = (x4_2 ++ [(ji25) % 256]) := ⟨_, rfl⟩
     replace H : (word_Put.l1 k2 a0 x3_13 y133 x3_13 (wrap64 (x56_2 + 1))) = some r := by first | (rw [hy133]; with_reducible exact H) | (have H2_ := (Option.bind_some _ _).symm.trans H; rw [hy133]; with_reducible exact H2_) | (have H2_ := (Option.bind_some _ _).symm.trans H; with_reducible exact H2_) | with_reducible exact H | (rw [hy133]; exact H) | exact H
     have Ny133 := Aside0.mk hy133
     clear hy133
     have H' := Aside0.mk H
     clear H
     go_wp2_with (first | ((with_reducible refine gate_builtin (b := .append) (xs := #[.tmp 59, .tmp 68]) rfl ?_); at_builtin; refine Kd.R_append (Kd.int .u8) (w0 := w) w.heap.size rfl (.tmp 59) (.tmp 68) 45 5 (.int .u8 0) 1 rfl Tryd.underlying45 info5 rfl (by decide) (by omega) u4 x4_2 ((ji25) % 256) [.int .u8 ((ji25) % 256)] (fun _ => True) (fun _ => False) rfl rfl ?aP (fun _ hk => hk.elim) ?aF ?aO ?aB ?aS ?aL ?_; (case aP => exact rfl); (case aB => exact bA); (case aF => exact (fun _ _ => trivial)); (case aO => exact (by (with_reducible repeat (first | apply Kd.R_alloc | apply Kd.R_drewN | apply Kd.R_drew)); exact HO_4.out)); (case aS => exact (below_size bA)); (case aL => have := LMc26.out; omega); intro v134 w27 ho hb hg hat; rw [← Ny133.out] at ho; have HO135 := as_ (ho); replace HB := as_ (hb); clear HO_4; clear ho hb hg hat))
     go_roundg k2
     case measure => have := HJ13.out; have := HK2.out; omega
     case rel => exact ⟨(y133), (wrap64 (x56_2 + 1)), (by first | rfl | (simp; done) | (simp [*]; done)), (by first | exact H' | (rw [hji25]; exact H') | (rw [hji23]; exact H') | (rw [hji18]; exact H') | (rw [hji16]; exact H')), ⟨by have := HJ13.out; have := HK2.out; omega⟩, ⟨by (with_reducible repeat (first | apply Kd.R_alloc | apply Kd.R_drewN | apply Kd.R_drew)); exact HO135.out⟩, ⟨by repeat (first | (with_reducible first | exact HB.out | apply below_alloc | apply pw_below_drewN | apply below_drew1) | exact HB.out)⟩⟩
/-! ### strings_ReplaceAll: function 43, by hand -/
def strings_ReplaceAll.f (a0 : ByteArray) (a1 : ByteArray) (a2 : ByteArray) : Option (ByteArray) := if a1.toList = ([0] : List UInt8) then (if a2.toList = ([0, 255] : List UInt8) then (if a0.size ≤ 1099511627776 then (some (⟨(Go.Proofs.YthaicofleloplaaDoorR.escL a0.data.toList).toArray⟩ : ByteArray)) else none) else none) else none
theorem strings_ReplaceAll.calls (a0 : ByteArray) (a1 : ByteArray) (a2 : ByteArray) (r : ByteArray) (w : World) (h : strings_ReplaceAll.f a0 a1 a2 = some r) :
  Calls Tryd.prog 43 #[.string a0, .string a1, .string a2] w fun e w' => e = .returned (.string r) ∧ Below w.heap.size w w' := by
 unfold strings_ReplaceAll.f at h
 by_cases h1 : a1.toList = ([0] : List UInt8)
 rotate_left
 ·rw [if_neg h1] at h; cases h
 rw [if_pos h1] at h
 by_cases h2 : a2.toList = ([0, 255] : List UInt8)
 rotate_left
 ·rw [if_neg h2] at h; cases h
 rw [if_pos h2] at h
 by_cases h3 : a0.size ≤ 1099511627776
 rotate_left
 ·rw [if_neg h3] at h; cases h
 rw [if_pos h3] at h
 obtain rfl := Option.some.inj h
 obtain rfl : a1 = (⟨#[0]⟩ : ByteArray) := ByteArray.ext (Array.ext' ((ByteArray.toList_eq a1).symm.trans h1))
 obtain rfl : a2 = (⟨#[0, 255]⟩ : ByteArray) := ByteArray.ext (Array.ext' ((ByteArray.toList_eq a2).symm.trans h2))
 have hm := Lib.countB_mul_le (⟨#[0]⟩ : ByteArray) (Nat.le_refl 1) a0.size a0 (Nat.le_refl _)
 have s1 : (⟨#[0]⟩ : ByteArray).size = 1 := rfl
 have s2 : (⟨#[0, 255]⟩ : ByteArray).size = 2 := rfl
 rw [s1] at hm
 refine (Go.Proofs.YthaicofleloplaaDoorR.Repl.all Tryd.lays155 Tryd.Builder_Extra_155 a0 0 ⟨#[0]⟩ ⟨#[0, 255]⟩ rfl (by decide) w (by rw [s2]; omega)).mono fun e w' ⟨he, hw⟩ => ⟨?_, hw⟩
 rw [he, ← Go.Proofs.YthaicofleloplaaDoorR.escL_replace]


/-! ### col_Put: function 23, by hand -/
def col_Put.app (a : ByteArray) (b : ByteArray) : Option (ByteArray) := if a.size + b.size ≤ 9223372036854775807 then some (a ++ b) else none
def col_Put.f (k : Nat) (a0_0 : Int) (a0_1 : Int) (a0_2 : Int) (a0_3 : ByteArray) : Option (ByteArray × Int) :=
 (col_Right.f k a0_0 a0_1 a0_2 a0_3).bind fun t => if t = true then (
  if a0_0 = 0 then some (strOfNums [16], 0)
  else if a0_0 = 1 then some (strOfNums [(wrap64 (32 + wrap64 a0_2)) % 256], 0)
  else if a0_0 = 2 then ((col_wide.f (Go.bits .xor .u64 (IntKind.u64.wrap a0_1) 9223372036854775808)).bind fun x => (col_Put.app (strOfNums [48]) x).bind fun y => some (y, 0))
  else if a0_0 = 3 then ((word_Put.f k a0_2).bind fun x => (col_Put.app (strOfNums [64]) x).bind fun y => some (y, 0))
  else if a0_0 = 4 then ((strings_ReplaceAll.f a0_3 (⟨#[0]⟩ : ByteArray) (⟨#[0, 255]⟩ : ByteArray)).bind fun x => (col_Put.app (strOfNums [80]) x).bind fun y => (col_Put.app y (⟨#[0, 1]⟩ : ByteArray)).bind fun z => some (z, 0))
  else none) else some ((⟨#[]⟩ : ByteArray), 3)
theorem col_Put.mono : ∀ a0 a1 a2 a3 k, LeO (col_Put.f k a0 a1 a2 a3) (col_Put.f (k + 1) a0 a1 a2 a3) := by
 intro a0 a1 a2 a3 k
 unfold col_Put.f
 refine LeO.bind (col_Right.mono _ _ _ _ _) (fun _ => LeO.ite (LeO.ite (LeO.refl _) (LeO.ite (LeO.refl _) (LeO.ite (LeO.refl _) (LeO.ite (LeO.bind (word_Put.mono _ _) (fun _ => LeO.refl _)) (LeO.refl _))))) (LeO.refl _))
theorem col_first.calls (n : Int) (w : World) : Calls Tryd.prog 35 #[.int .i64 n] w fun e w' => e = .returned (.string (strOfNums [n % 256])) ∧ Below w.heap.size w w' := by
 have HB := as_ (Below.refl w.heap.size w)
 obtain ⟨y110, hy110⟩ : ∃ y_ : List Int, y_ = (([(n) % 256] : List Int)) := ⟨_, rfl⟩
 rw [← hy110]
 have Ny110 := Aside0.mk hy110
 clear hy110
 go_enter Tryd.func35, Tryd.ntmps35
 go_wp2_with (first | ((with_reducible refine gate_dst (N := 5) rfl ?_); refine Kd.R_lit (Kd.int .u8) _ 5 ?hg (N := 5) ?hd (xs := ([(n) % 256] : List Int)) (inner := [.int .u8 ((n) % 256)]) (ok := fun _ => True) (okp := fun _ => True) ?hr ?hp (fun _ hk => hk) trivial (Below.refl _ _) (Nat.le_refl _) (by simp) ?_; (case hd => rfl); (case hg => rfl); (case hr => first | (go_simp; done) | (go_simp; rfl)); (case hp => exact (Reps.one (show Kd.M (Kd.int .u8) _ _ _ ((n) % 256) [.int .u8 ((n) % 256)] from rfl) (Reps.none _ _))); intro v111 w3 ho4 hb hg_ hnew_; clear hg_ hnew_; (first | rw [← Ny110.out] at ho4 | (simp only [Int.reduceToNat] at ho4; rw [← Ny110.out] at ho4)); have HO112 := as_ (Kd.R_lower ho4 (below_size bA)); replace HB := as_ (below_step bA hb); clear hb ho4; have hcv5 := own_string (P := Tryd.prog) Tryd.underlying45 Tryd.underlying5 Tryd.underlying9 (Kd.own_of_R HO112.out)))
 go_ret
 exact ⟨eW, by repeat (first | (with_reducible first | exact HB.out | apply below_alloc | apply pw_below_drewN | apply below_drew1) | exact HB.out)⟩
theorem col_put0.calls (B4 B5 : Nat) (n : Int) (w : World) (hc4 : w.cell? ⟨B4, 0, none⟩ = some (.func (.func 35) #[] #[])) (hc5 : w.cell? ⟨B5, 0, none⟩ = some (.int .i64 n)) :
  Calls Tryd.prog 36 #[.pointer (some ⟨B4, 0, none⟩), .pointer (some ⟨B5, 0, none⟩)] w fun e w' => e = .returned (.string (strOfNums [n % 256])) ∧ Below w.heap.size w w' := by
 go_enter Tryd.func36, Tryd.ntmps36
 go_wp2_with (go_at_call 35; (with_reducible refine (col_first.calls n _).mono ?_); rintro e w1 ⟨rfl, hb⟩)
 go_ret
 exact ⟨rfl, by repeat (first | exact below_step (Below.refl _ _) hb | exact hb | exact below_step (pw_below_drewN (Below.refl _ _) _) hb | apply pw_below_drewN | apply below_drew1)⟩
theorem col_put1.calls (B4 B5 B1 : Nat) (n u : Int) (w : World) (hc4 : w.cell? ⟨B4, 0, none⟩ = some (.func (.func 35) #[] #[])) (hc5 : w.cell? ⟨B5, 0, none⟩ = some (.int .i64 n)) (hcu : w.cell? ⟨B1, 2, none⟩ = some (.int .u64 u)) :
  Calls Tryd.prog 37 #[.pointer (some ⟨B4, 0, none⟩), .pointer (some ⟨B5, 0, none⟩), .pointer (some ⟨B1, 0, none⟩)] w fun e w' => e = .returned (.string (strOfNums [(wrap64 (n + wrap64 u)) % 256])) ∧ Below w.heap.size w w' := by
 go_enter Tryd.func37, Tryd.ntmps37
 go_wp2_with (go_at_call 35; (with_reducible refine (col_first.calls (wrap64 (n + wrap64 u)) _).mono ?_); rintro e w1 ⟨rfl, hb⟩)
 go_ret
 exact ⟨rfl, by repeat (first | exact below_step (Below.refl _ _) hb | exact hb | exact below_step (pw_below_drewN (Below.refl _ _) _) hb | apply pw_below_drewN | apply below_drew1)⟩
set_option maxHeartbeats 4000000 in
set_option maxRecDepth 100000 in
theorem col_put2.calls (B4 B5 B1 : Nat) (n : Int) (i : Int) (x : ByteArray) (w : World) (hc4 : w.cell? ⟨B4, 0, none⟩ = some (.func (.func 35) #[] #[])) (hc5 : w.cell? ⟨B5, 0, none⟩ = some (.int .i64 n)) (hcu : w.cell? ⟨B1, 1, none⟩ = some (.int .i64 i)) (h4 : B4 < w.heap.size) (h5 : B5 < w.heap.size) (h1 : B1 < w.heap.size) (hx : col_wide.f (Go.bits .xor .u64 (IntKind.u64.wrap i) 9223372036854775808) = some x) (hz : 1 + x.size ≤ 9223372036854775807) :
  Calls Tryd.prog 38 #[.pointer (some ⟨B4, 0, none⟩), .pointer (some ⟨B5, 0, none⟩), .pointer (some ⟨B1, 0, none⟩)] w fun e w' => e = .returned (.string (strOfNums [n % 256] ++ x)) ∧ Below w.heap.size w w' := by
 have HKP : Aside0 (∀ W' : World, Below w.heap.size w W' → W'.cell? ⟨B4, 0, none⟩ = some (.func (.func 35) #[] #[]) ∧ W'.cell? ⟨B5, 0, none⟩ = some (.int .i64 n) ∧ W'.cell? ⟨B1, 1, none⟩ = some (.int .i64 i)) := ⟨fun W' hb => ⟨(hb.cell (p := ⟨B4, 0, none⟩) h4).trans hc4, (hb.cell (p := ⟨B5, 0, none⟩) h5).trans hc5, (hb.cell (p := ⟨B1, 1, none⟩) h1).trans hcu⟩⟩
 have A2 := Aside0.mk hx
 clear hx
 have HF0 : ∀ w : World, Calls Tryd.prog 35 #[.int .i64 n] w fun e w' => e = .returned (.string (strOfNums [n % 256])) ∧ Below w.heap.size w w' := fun w => col_first.calls n w
 have hzz : (strOfNums [n % 256]).size + x.size ≤ 9223372036854775807 := hz
 clear hz
 generalize strOfNums [n % 256] = p0 at HF0 hzz ⊢
 have HF := Aside0.mk HF0
 clear HF0
 have hzb1 : decide (p0.size + x.size ≤ 9223372036854775807) = true := decide_eq_true hzz
 have hzb2 : (9223372036854775807 < p0.size + x.size) = False := eq_false (Nat.not_lt.2 hzz)
 clear h1 h4 h5
 go_enter Tryd.func38, Tryd.ntmps38
 go_upto_region 1 with fail
 go_region_held3 (fun W' : World => W'.cell? ⟨B4, 0, none⟩ = some (.func (.func 35) #[] #[]) ∧ W'.cell? ⟨B5, 0, none⟩ = some (.int .i64 n) ∧ W'.cell? ⟨B1, 1, none⟩ = some (.int .i64 i) ∧ Below w.heap.size w W') ((refine ⟨(HKP.out _ ?_).1, (HKP.out _ ?_).2.1, (HKP.out _ ?_).2.2, ?_⟩ <;> repeat (first | assumption | exact Below.refl _ _ | apply pw_below_drewN | apply below_drew1))) (first | ((try go_simp); go_at_call 35; (with_reducible refine (HF.out _).mono ?_); rintro e w31 ⟨rfl, hb⟩; have HB31 : Below w.heap.size w w31 := below_step (by repeat (first | assumption | exact Below.refl _ _ | apply pw_below_drewN | apply below_drew1)) hb) | ((try go_simp); go_at_call 39; (with_reducible refine (col_wide.calls _ x _ A2.out).mono ?_); rintro e w31 ⟨rfl, hb⟩; have HB31 : Below w.heap.size w w31 := below_step (by repeat (first | assumption | exact Below.refl _ _ | apply pw_below_drewN | apply below_drew1)) hb))
 go_wp2
 go_ret
 exact ⟨rfl, by repeat (first | assumption | exact Below.refl _ _ | apply pw_below_drewN | apply below_drew1)⟩
set_option maxHeartbeats 4000000 in
set_option maxRecDepth 100000 in
theorem col_put3.calls (B4 B5 B1 : Nat) (n : Int) (k : Nat) (i : Int) (x : ByteArray) (w : World) (hc4 : w.cell? ⟨B4, 0, none⟩ = some (.func (.func 35) #[] #[])) (hc5 : w.cell? ⟨B5, 0, none⟩ = some (.int .i64 n)) (hcu : w.cell? ⟨B1, 2, none⟩ = some (.int .u64 i)) (h4 : B4 < w.heap.size) (h5 : B5 < w.heap.size) (h1 : B1 < w.heap.size) (hx : word_Put.f k i = some x) (hz : 1 + x.size ≤ 9223372036854775807) :
  Calls Tryd.prog 40 #[.pointer (some ⟨B4, 0, none⟩), .pointer (some ⟨B5, 0, none⟩), .pointer (some ⟨B1, 0, none⟩)] w fun e w' => e = .returned (.string (strOfNums [n % 256] ++ x)) ∧ Below w.heap.size w w' := by
 have HKP : Aside0 (∀ W' : World, Below w.heap.size w W' → W'.cell? ⟨B4, 0, none⟩ = some (.func (.func 35) #[] #[]) ∧ W'.cell? ⟨B5, 0, none⟩ = some (.int .i64 n) ∧ W'.cell? ⟨B1, 2, none⟩ = some (.int .u64 i)) := ⟨fun W' hb => ⟨(hb.cell (p := ⟨B4, 0, none⟩) h4).trans hc4, (hb.cell (p := ⟨B5, 0, none⟩) h5).trans hc5, (hb.cell (p := ⟨B1, 2, none⟩) h1).trans hcu⟩⟩
 have A2 := Aside0.mk hx
 clear hx
 have HF0 : ∀ w : World, Calls Tryd.prog 35 #[.int .i64 n] w fun e w' => e = .returned (.string (strOfNums [n % 256])) ∧ Below w.heap.size w w' := fun w => col_first.calls n w
 have hzz : (strOfNums [n % 256]).size + x.size ≤ 9223372036854775807 := hz
 clear hz
 generalize strOfNums [n % 256] = p0 at HF0 hzz ⊢
 have HF := Aside0.mk HF0
 clear HF0
 have hzb1 : decide (p0.size + x.size ≤ 9223372036854775807) = true := decide_eq_true hzz
 have hzb2 : (9223372036854775807 < p0.size + x.size) = False := eq_false (Nat.not_lt.2 hzz)
 clear h1 h4 h5
 go_enter Tryd.func40, Tryd.ntmps40
 go_upto_region 1 with fail
 go_region_held3 (fun W' : World => W'.cell? ⟨B4, 0, none⟩ = some (.func (.func 35) #[] #[]) ∧ W'.cell? ⟨B5, 0, none⟩ = some (.int .i64 n) ∧ W'.cell? ⟨B1, 2, none⟩ = some (.int .u64 i) ∧ Below w.heap.size w W') ((refine ⟨(HKP.out _ ?_).1, (HKP.out _ ?_).2.1, (HKP.out _ ?_).2.2, ?_⟩ <;> repeat (first | assumption | exact Below.refl _ _ | apply pw_below_drewN | apply below_drew1))) (first | ((try go_simp); go_at_call 35; (with_reducible refine (HF.out _).mono ?_); rintro e w31 ⟨rfl, hb⟩; have HB31 : Below w.heap.size w w31 := below_step (by repeat (first | assumption | exact Below.refl _ _ | apply pw_below_drewN | apply below_drew1)) hb) | ((try go_simp); go_at_call 41; (with_reducible refine (word_Put.calls k i x _ A2.out).mono ?_); rintro e w31 ⟨rfl, hb⟩; have HB31 : Below w.heap.size w w31 := below_step (by repeat (first | assumption | exact Below.refl _ _ | apply pw_below_drewN | apply below_drew1)) hb))
 go_wp2
 go_ret
 exact ⟨rfl, by repeat (first | assumption | exact Below.refl _ _ | apply pw_below_drewN | apply below_drew1)⟩
set_option maxHeartbeats 4000000 in
set_option maxRecDepth 100000 in
theorem col_put4.calls (B4 B5 B1 : Nat) (n : Int) (s x : ByteArray) (w : World) (hc4 : w.cell? ⟨B4, 0, none⟩ = some (.func (.func 35) #[] #[])) (hc5 : w.cell? ⟨B5, 0, none⟩ = some (.int .i64 n)) (hcu : w.cell? ⟨B1, 3, none⟩ = some (.string s)) (h4 : B4 < w.heap.size) (h5 : B5 < w.heap.size) (h1 : B1 < w.heap.size) (hx : strings_ReplaceAll.f s (⟨#[0]⟩ : ByteArray) (⟨#[0, 255]⟩ : ByteArray) = some x) (hz : 1 + x.size ≤ 9223372036854775805) :
  Calls Tryd.prog 42 #[.pointer (some ⟨B4, 0, none⟩), .pointer (some ⟨B5, 0, none⟩), .pointer (some ⟨B1, 0, none⟩)] w fun e w' => e = .returned (.string (strOfNums [n % 256] ++ x ++ (⟨#[0, 1]⟩ : ByteArray))) ∧ Below w.heap.size w w' := by
 have HKP : Aside0 (∀ W' : World, Below w.heap.size w W' → W'.cell? ⟨B4, 0, none⟩ = some (.func (.func 35) #[] #[]) ∧ W'.cell? ⟨B5, 0, none⟩ = some (.int .i64 n) ∧ W'.cell? ⟨B1, 3, none⟩ = some (.string s)) := ⟨fun W' hb => ⟨(hb.cell (p := ⟨B4, 0, none⟩) h4).trans hc4, (hb.cell (p := ⟨B5, 0, none⟩) h5).trans hc5, (hb.cell (p := ⟨B1, 3, none⟩) h1).trans hcu⟩⟩
 have A2 := Aside0.mk hx
 clear hx
 have HF0 : ∀ w : World, Calls Tryd.prog 35 #[.int .i64 n] w fun e w' => e = .returned (.string (strOfNums [n % 256])) ∧ Below w.heap.size w w' := fun w => col_first.calls n w
 have hzz : (strOfNums [n % 256]).size + x.size ≤ 9223372036854775805 := hz
 clear hz
 generalize strOfNums [n % 256] = p0 at HF0 hzz ⊢
 have HF := Aside0.mk HF0
 clear HF0
 have hz1 : p0.size + x.size ≤ 9223372036854775807 := by omega
 have hzb1 : decide (p0.size + x.size ≤ 9223372036854775807) = true := decide_eq_true hz1
 have hzb2 : (9223372036854775807 < p0.size + x.size) = False := eq_false (Nat.not_lt.2 hz1)
 obtain ⟨js, hjs⟩ : ∃ j_ : ByteArray, p0 ++ x = j_ := ⟨_, rfl⟩
 rw [hjs]
 have hz2 : js.size + 2 ≤ 9223372036854775807 := by rw [← hjs, ByteArray.size_append]; omega
 have hz3 : js.size + (⟨#[0, 1]⟩ : ByteArray).size ≤ 9223372036854775807 := hz2
 have hzb3 : decide (js.size + (⟨#[0, 1]⟩ : ByteArray).size ≤ 9223372036854775807) = true := decide_eq_true hz3
 have hzb4 : (9223372036854775807 < js.size + (⟨#[0, 1]⟩ : ByteArray).size) = False := eq_false (Nat.not_lt.2 hz3)
 have hzb5 : decide (js.size + 2 ≤ 9223372036854775807) = true := decide_eq_true hz2
 have hzb6 : (9223372036854775807 < js.size + 2) = False := eq_false (Nat.not_lt.2 hz2)
 clear hzz
 clear h1 h4 h5
 go_enter Tryd.func42, Tryd.ntmps42
 go_upto_region 1 with fail
 go_region_held3 (fun W' : World => W'.cell? ⟨B4, 0, none⟩ = some (.func (.func 35) #[] #[]) ∧ W'.cell? ⟨B5, 0, none⟩ = some (.int .i64 n) ∧ W'.cell? ⟨B1, 3, none⟩ = some (.string s) ∧ Below w.heap.size w W') ((refine ⟨(HKP.out _ ?_).1, (HKP.out _ ?_).2.1, (HKP.out _ ?_).2.2, ?_⟩ <;> repeat (first | assumption | exact Below.refl _ _ | apply pw_below_drewN | apply below_drew1))) (first | ((try go_simp); go_at_call 35; (with_reducible refine (HF.out _).mono ?_); rintro e w31 ⟨rfl, hb⟩; have HB31 : Below w.heap.size w w31 := below_step (by repeat (first | assumption | exact Below.refl _ _ | apply pw_below_drewN | apply below_drew1)) hb) | ((try go_simp); go_at_call 43; (with_reducible refine (strings_ReplaceAll.calls s _ _ x _ A2.out).mono ?_); rintro e w31 ⟨rfl, hb⟩; have HB31 : Below w.heap.size w w31 := below_step (by repeat (first | assumption | exact Below.refl _ _ | apply pw_below_drewN | apply below_drew1)) hb))
 go_wp2
 go_ret
 exact ⟨rfl, by repeat (first | assumption | exact Below.refl _ _ | apply pw_below_drewN | apply below_drew1)⟩
theorem run_store_fn {P : Program} {w : World} {a : Addr} {m : Mode} (f : Fn) (x y : Array Value) : (store a (.func f x y) m).run P w = stored P w a (.func f x y) m := run_store P w a _ m rfl
attribute [local go_sem] run_store_fn
theorem put_ix0 (f0 f1 f2 f3 f4 : Value) (W : World) : (Instr.index 74 (.agg #[f0, f1, f2, f3, f4]) (.int .i64 0)).run Tryd.prog W = .ok f0 W := by kernel_rfl
theorem put_ix1 (f0 f1 f2 f3 f4 : Value) (W : World) : (Instr.index 74 (.agg #[f0, f1, f2, f3, f4]) (.int .i64 1)).run Tryd.prog W = .ok f1 W := by kernel_rfl
theorem put_ix2 (f0 f1 f2 f3 f4 : Value) (W : World) : (Instr.index 74 (.agg #[f0, f1, f2, f3, f4]) (.int .i64 2)).run Tryd.prog W = .ok f2 W := by kernel_rfl
theorem put_ix3 (f0 f1 f2 f3 f4 : Value) (W : World) : (Instr.index 74 (.agg #[f0, f1, f2, f3, f4]) (.int .i64 3)).run Tryd.prog W = .ok f3 W := by kernel_rfl
theorem put_ix4 (f0 f1 f2 f3 f4 : Value) (W : World) : (Instr.index 74 (.agg #[f0, f1, f2, f3, f4]) (.int .i64 4)).run Tryd.prog W = .ok f4 W := by kernel_rfl
attribute [local go_sem] put_ix0 put_ix1 put_ix2 put_ix3 put_ix4
theorem put_st {w w2 : World} {gb4 : Nat} {cs : Array Value} {v : Value} {t ct : TypeId} {g : Nat} (h4 : w2.heap[gb4]? = some (.cells #[v] t (0, 0))) (h1 : w2.heap[g]? = some (.cells cs ct (0, 0))) (hne : g ≠ gb4) (hb : Below w.heap.size w w2) (hge : w.heap.size ≤ gb4) (u : Value) :
  (w2.setCell ⟨gb4, 0, none⟩ u).heap[gb4]? = some (.cells #[u] t (0, 0)) ∧ (w2.setCell ⟨gb4, 0, none⟩ u).heap[g]? = some (.cells cs ct (0, 0)) ∧ Below w.heap.size w (w2.setCell ⟨gb4, 0, none⟩ u) :=
 ⟨blk_put h4 0 u rfl, (Below.heap_setCell w2 ⟨gb4, 0, none⟩ u g hne).trans h1, below_set hb hge⟩
theorem put_st2 {w w4 : World} {gb4 gb5 : Nat} {cs : Array Value} {v v4 : Value} {t t4 ct : TypeId} {g : Nat} (h5 : w4.heap[gb5]? = some (.cells #[v] t (0, 0))) (h4 : w4.heap[gb4]? = some (.cells #[v4] t4 (0, 0))) (h1 : w4.heap[g]? = some (.cells cs ct (0, 0))) (hn4 : gb4 ≠ gb5) (hn1 : g ≠ gb5) (hb : Below w.heap.size w w4) (hge : w.heap.size ≤ gb5) (u : Value) :
  (w4.setCell ⟨gb5, 0, none⟩ u).heap[gb5]? = some (.cells #[u] t (0, 0)) ∧ (w4.setCell ⟨gb5, 0, none⟩ u).heap[gb4]? = some (.cells #[v4] t4 (0, 0)) ∧ (w4.setCell ⟨gb5, 0, none⟩ u).heap[g]? = some (.cells cs ct (0, 0)) ∧ Below w.heap.size w (w4.setCell ⟨gb5, 0, none⟩ u) :=
 ⟨blk_put h5 0 u rfl, (Below.heap_setCell w4 ⟨gb5, 0, none⟩ u gb4 hn4).trans h4, (Below.heap_setCell w4 ⟨gb5, 0, none⟩ u g hn1).trans h1, below_set hb hge⟩
theorem put_app {n : Int} {x y : ByteArray} (h : col_Put.app (strOfNums [n]) x = some y) : 1 + x.size ≤ 9223372036854775807 ∧ y = strOfNums [n] ++ x := by
 unfold col_Put.app at h
 by_cases c : (strOfNums [n]).size + x.size ≤ 9223372036854775807
 rotate_left
 ·rw [if_neg c] at h; cases h
 rw [if_pos c] at h; exact ⟨c, (Option.some.inj h).symm⟩
theorem put_app3 {n : Int} {x y z : ByteArray} (h : col_Put.app (strOfNums [n]) x = some y) (h2 : col_Put.app y (⟨#[0, 1]⟩ : ByteArray) = some z) : 1 + x.size ≤ 9223372036854775805 ∧ z = strOfNums [n] ++ x ++ (⟨#[0, 1]⟩ : ByteArray) := by
 obtain ⟨c, rfl⟩ := put_app h
 unfold col_Put.app at h2
 by_cases d : (strOfNums [n] ++ x).size + (⟨#[0, 1]⟩ : ByteArray).size ≤ 9223372036854775807
 rotate_left
 ·rw [if_neg d] at h2; cases h2
 rw [if_pos d] at h2
 refine ⟨?_, (Option.some.inj h2).symm⟩
 rw [ByteArray.size_append] at d
 have e1 : (strOfNums [n]).size = 1 := rfl
 have e2 : (⟨#[0, 1]⟩ : ByteArray).size = 2 := rfl
 omega
theorem put_two {o : Option ByteArray} {g : ByteArray → Option ByteArray} {r1 : ByteArray} {r2 : Int} (h : (o.bind fun x => (g x).bind fun y => some (y, (0 : Int))) = some (r1, r2)) : ∃ x, o = some x ∧ ∃ y, g x = some y ∧ r1 = y ∧ r2 = 0 := by
 obtain ⟨x, hx, h⟩ := Option.bind_eq_some_iff.mp h
 obtain ⟨y, hy, h⟩ := Option.bind_eq_some_iff.mp h
 simp only [Option.some.injEq, Prod.mk.injEq] at h
 exact ⟨x, hx, y, hy, h.1.symm, h.2.symm⟩
theorem put_three {o : Option ByteArray} {g f : ByteArray → Option ByteArray} {r1 : ByteArray} {r2 : Int} (h : (o.bind fun x => (g x).bind fun y => (f y).bind fun z => some (z, (0 : Int))) = some (r1, r2)) : ∃ x, o = some x ∧ ∃ y, g x = some y ∧ ∃ z, f y = some z ∧ r1 = z ∧ r2 = 0 := by
 obtain ⟨x, hx, h⟩ := Option.bind_eq_some_iff.mp h
 obtain ⟨y, hy, h⟩ := Option.bind_eq_some_iff.mp h
 obtain ⟨z, hz, h⟩ := Option.bind_eq_some_iff.mp h
 simp only [Option.some.injEq, Prod.mk.injEq] at h
 exact ⟨x, hx, y, hy, z, hz, h.1.symm, h.2.symm⟩
set_option maxHeartbeats 8000000 in
set_option maxRecDepth 100000 in
theorem col_Put.calls (k : Nat) (a0_0 : Int) (a0_1 : Int) (a0_2 : Int) (a0_3 : ByteArray) (r1 : ByteArray) (r2 : Int) (w : World) (h : col_Put.f k a0_0 a0_1 a0_2 a0_3 = some (r1, r2)) :
  Calls Tryd.prog 23 #[.agg #[.int .i64 a0_0, .int .i64 a0_1, .int .u64 a0_2, .string a0_3]] w fun e w' => e = .returned (.tuple #[.string r1, .int .i64 r2]) ∧ Below w.heap.size w w' := by
 unfold col_Put.f at h
 replace h := Option.bind_eq_some_iff.mp h
 obtain ⟨t, A10, H⟩ := h
 have A1 := Aside0.mk A10
 clear A10
 cases t with
 | false =>
  rw [if_neg Bool.false_ne_true] at H
  simp only [Option.some.injEq, Prod.mk.injEq] at H
  obtain ⟨rfl, rfl⟩ := H
  go_enter Tryd.func23, Tryd.ntmps23
  go_wp2_with (go_at_call 34; (with_reducible refine (col_Right.calls k a0_0 a0_1 a0_2 a0_3 false _ A1.out).mono ?_); rintro e w1 ⟨rfl, hb⟩)
  go_ret2
  exact ⟨rfl, by repeat (first | exact below_step (below_alloc (Below.refl _ _) _) hb | apply pw_below_drewN | apply below_drew1)⟩
 | true =>
  rw [if_pos rfl] at H
  by_cases c0 : a0_0 = 0
  ·rw [if_pos c0] at H
   subst c0
   simp only [Option.some.injEq, Prod.mk.injEq] at H
   obtain ⟨rfl, rfl⟩ := H
   go_enter Tryd.func23, Tryd.ntmps23
   go_wp2_with (first | (go_at_call 34; (with_reducible refine (col_Right.calls k 0 a0_1 a0_2 a0_3 true _ A1.out).mono ?_); rintro e w1 ⟨rfl, hb⟩; have g1 := as_ (blk_below (blk_new w (.cells #[.int .i64 0, .int .i64 a0_1, .int .u64 a0_2, .string a0_3] 51)) hb); have hb1 := as_ (below_step (below_alloc (Below.refl _ _) _) hb); clear hb) | ((with_reducible refine gate_dst (N := 4) rfl ?_); refine box_event (by rfl) (N := 4) (by rfl) (cs := #[.nilFunc]) (t := 70) gS ?_; intro gb4 hg4 w2 hbox hb; have Q1 := as_ (put_st hbox (blk_below g1.out hb) (by have := blk_lt g1.out; omega) (below_step hb1.out hb) (by have := blk_lt g1.out; have := below_size hb1.out; omega) (.func (.func 35) #[] #[])); have c4 : w2.cell? ⟨gb4, 0, none⟩ = some .nilFunc := (blk_cell hbox 0).trans rfl; have f4 := blk_frozen hbox 0; have q0 : (w2.setCell ⟨gb4, 0, none⟩ (.func (.func 35) #[] #[])).cell? ⟨w.heap.size, 0, none⟩ = some (.int .i64 0) := (blk_cell Q1.out.2.1 0).trans rfl; clear hbox hb g1 hb1 hg4) | ((with_reducible refine gate_dst (N := 5) rfl ?_); refine box_event (by rfl) (N := 5) (by rfl) (cs := #[.int .i64 0]) (t := 3) gS ?_; intro gb5 hg5 w4 hbox hb; have Q2 := as_ (put_st2 hbox (blk_below Q1.out.1 hb) (blk_below Q1.out.2.1 hb) (by have := blk_lt Q1.out.1; omega) (by have := blk_lt Q1.out.2.1; omega) (below_step Q1.out.2.2 hb) (by have := below_size Q1.out.2.2; omega) (.int .i64 16)); have c5 : w4.cell? ⟨gb5, 0, none⟩ = some (.int .i64 0) := (blk_cell hbox 0).trans rfl; have f5 := blk_frozen hbox 0; have q0b : (w4.setCell ⟨gb5, 0, none⟩ (.int .i64 16)).cell? ⟨w.heap.size, 0, none⟩ = some (.int .i64 0) := (blk_cell Q2.out.2.2.1 0).trans rfl; clear hbox hb hg5) | (go_at_call 36; ((with_reducible refine (col_put0.calls gb4 gb5 16 _ ((blk_cell Q2.out.2.1 0).trans rfl) ((blk_cell Q2.out.1 0).trans rfl)).mono ?_); rintro e w5 ⟨rfl, hb⟩; have HBF := as_ (below_step Q2.out.2.2.2 hb); clear hb)))
   go_ret2
   exact ⟨rfl, by repeat (first | exact HBF.out | apply pw_below_drewN | apply below_drew1)⟩
  rw [if_neg c0] at H
  by_cases c1 : a0_0 = 1
  ·rw [if_pos c1] at H
   clear c0
   subst c1
   simp only [Option.some.injEq, Prod.mk.injEq] at H
   obtain ⟨rfl, rfl⟩ := H
   go_enter Tryd.func23, Tryd.ntmps23
   go_wp2_with (first | (go_at_call 34; (with_reducible refine (col_Right.calls k 1 a0_1 a0_2 a0_3 true _ A1.out).mono ?_); rintro e w1 ⟨rfl, hb⟩; have g1 := as_ (blk_below (blk_new w (.cells #[.int .i64 1, .int .i64 a0_1, .int .u64 a0_2, .string a0_3] 51)) hb); have hb1 := as_ (below_step (below_alloc (Below.refl _ _) _) hb); clear hb) | ((with_reducible refine gate_dst (N := 4) rfl ?_); refine box_event (by rfl) (N := 4) (by rfl) (cs := #[.nilFunc]) (t := 70) gS ?_; intro gb4 hg4 w2 hbox hb; have Q1 := as_ (put_st hbox (blk_below g1.out hb) (by have := blk_lt g1.out; omega) (below_step hb1.out hb) (by have := blk_lt g1.out; have := below_size hb1.out; omega) (.func (.func 35) #[] #[])); have c4 : w2.cell? ⟨gb4, 0, none⟩ = some .nilFunc := (blk_cell hbox 0).trans rfl; have f4 := blk_frozen hbox 0; have q0 : (w2.setCell ⟨gb4, 0, none⟩ (.func (.func 35) #[] #[])).cell? ⟨w.heap.size, 0, none⟩ = some (.int .i64 1) := (blk_cell Q1.out.2.1 0).trans rfl; clear hbox hb g1 hb1 hg4) | ((with_reducible refine gate_dst (N := 5) rfl ?_); refine box_event (by rfl) (N := 5) (by rfl) (cs := #[.int .i64 0]) (t := 3) gS ?_; intro gb5 hg5 w4 hbox hb; have Q2 := as_ (put_st2 hbox (blk_below Q1.out.1 hb) (blk_below Q1.out.2.1 hb) (by have := blk_lt Q1.out.1; omega) (by have := blk_lt Q1.out.2.1; omega) (below_step Q1.out.2.2 hb) (by have := below_size Q1.out.2.2; omega) (.int .i64 32)); have c5 : w4.cell? ⟨gb5, 0, none⟩ = some (.int .i64 0) := (blk_cell hbox 0).trans rfl; have f5 := blk_frozen hbox 0; have q0b : (w4.setCell ⟨gb5, 0, none⟩ (.int .i64 32)).cell? ⟨w.heap.size, 0, none⟩ = some (.int .i64 1) := (blk_cell Q2.out.2.2.1 0).trans rfl; clear hbox hb hg5) | (go_at_call 37; ((with_reducible refine (col_put1.calls gb4 gb5 w.heap.size 32 a0_2 _ ((blk_cell Q2.out.2.1 0).trans rfl) ((blk_cell Q2.out.1 0).trans rfl) ((blk_cell Q2.out.2.2.1 2).trans rfl)).mono ?_); rintro e w5 ⟨rfl, hb⟩; have HBF := as_ (below_step Q2.out.2.2.2 hb); clear hb)))
   go_ret2
   exact ⟨rfl, by repeat (first | exact HBF.out | apply pw_below_drewN | apply below_drew1)⟩
  rw [if_neg c1] at H
  by_cases c2 : a0_0 = 2
  ·rw [if_pos c2] at H
   clear c0 c1
   subst c2
   obtain ⟨x, hx0, y, hx1, rfl, rfl⟩ := put_two H
   have hx := Aside0.mk hx0
   have hz := as_ (put_app hx1)
   rw [(put_app hx1).2]
   clear hx0 hx1 H
   go_enter Tryd.func23, Tryd.ntmps23
   go_wp2_with (first | (go_at_call 34; (with_reducible refine (col_Right.calls k 2 a0_1 a0_2 a0_3 true _ A1.out).mono ?_); rintro e w1 ⟨rfl, hb⟩; have g1 := as_ (blk_below (blk_new w (.cells #[.int .i64 2, .int .i64 a0_1, .int .u64 a0_2, .string a0_3] 51)) hb); have hb1 := as_ (below_step (below_alloc (Below.refl _ _) _) hb); clear hb) | ((with_reducible refine gate_dst (N := 4) rfl ?_); refine box_event (by rfl) (N := 4) (by rfl) (cs := #[.nilFunc]) (t := 70) gS ?_; intro gb4 hg4 w2 hbox hb; have Q1 := as_ (put_st hbox (blk_below g1.out hb) (by have := blk_lt g1.out; omega) (below_step hb1.out hb) (by have := blk_lt g1.out; have := below_size hb1.out; omega) (.func (.func 35) #[] #[])); have c4 : w2.cell? ⟨gb4, 0, none⟩ = some .nilFunc := (blk_cell hbox 0).trans rfl; have f4 := blk_frozen hbox 0; have q0 : (w2.setCell ⟨gb4, 0, none⟩ (.func (.func 35) #[] #[])).cell? ⟨w.heap.size, 0, none⟩ = some (.int .i64 2) := (blk_cell Q1.out.2.1 0).trans rfl; clear hbox hb g1 hb1 hg4) | ((with_reducible refine gate_dst (N := 5) rfl ?_); refine box_event (by rfl) (N := 5) (by rfl) (cs := #[.int .i64 0]) (t := 3) gS ?_; intro gb5 hg5 w4 hbox hb; have Q2 := as_ (put_st2 hbox (blk_below Q1.out.1 hb) (blk_below Q1.out.2.1 hb) (by have := blk_lt Q1.out.1; omega) (by have := blk_lt Q1.out.2.1; omega) (below_step Q1.out.2.2 hb) (by have := below_size Q1.out.2.2; omega) (.int .i64 48)); have c5 : w4.cell? ⟨gb5, 0, none⟩ = some (.int .i64 0) := (blk_cell hbox 0).trans rfl; have f5 := blk_frozen hbox 0; have q0b : (w4.setCell ⟨gb5, 0, none⟩ (.int .i64 48)).cell? ⟨w.heap.size, 0, none⟩ = some (.int .i64 2) := (blk_cell Q2.out.2.2.1 0).trans rfl; clear hbox hb hg5) | (go_at_call 38; ((with_reducible refine (col_put2.calls gb4 gb5 w.heap.size 48 a0_1 x _ ((blk_cell Q2.out.2.1 0).trans rfl) ((blk_cell Q2.out.1 0).trans rfl) ((blk_cell Q2.out.2.2.1 1).trans rfl) (blk_lt Q2.out.2.1) (blk_lt Q2.out.1) (blk_lt Q2.out.2.2.1) hx.out hz.out.1).mono ?_); rintro e w5 ⟨rfl, hb⟩; have HBF := as_ (below_step Q2.out.2.2.2 hb); clear hb)))
   go_ret2
   exact ⟨rfl, by repeat (first | exact HBF.out | apply pw_below_drewN | apply below_drew1)⟩
  rw [if_neg c2] at H
  by_cases c3 : a0_0 = 3
  ·rw [if_pos c3] at H
   clear c0 c1 c2
   subst c3
   obtain ⟨x, hx0, y, hx1, rfl, rfl⟩ := put_two H
   have hx := Aside0.mk hx0
   have hz := as_ (put_app hx1)
   rw [(put_app hx1).2]
   clear hx0 hx1 H
   go_enter Tryd.func23, Tryd.ntmps23
   go_wp2_with (first | (go_at_call 34; (with_reducible refine (col_Right.calls k 3 a0_1 a0_2 a0_3 true _ A1.out).mono ?_); rintro e w1 ⟨rfl, hb⟩; have g1 := as_ (blk_below (blk_new w (.cells #[.int .i64 3, .int .i64 a0_1, .int .u64 a0_2, .string a0_3] 51)) hb); have hb1 := as_ (below_step (below_alloc (Below.refl _ _) _) hb); clear hb) | ((with_reducible refine gate_dst (N := 4) rfl ?_); refine box_event (by rfl) (N := 4) (by rfl) (cs := #[.nilFunc]) (t := 70) gS ?_; intro gb4 hg4 w2 hbox hb; have Q1 := as_ (put_st hbox (blk_below g1.out hb) (by have := blk_lt g1.out; omega) (below_step hb1.out hb) (by have := blk_lt g1.out; have := below_size hb1.out; omega) (.func (.func 35) #[] #[])); have c4 : w2.cell? ⟨gb4, 0, none⟩ = some .nilFunc := (blk_cell hbox 0).trans rfl; have f4 := blk_frozen hbox 0; have q0 : (w2.setCell ⟨gb4, 0, none⟩ (.func (.func 35) #[] #[])).cell? ⟨w.heap.size, 0, none⟩ = some (.int .i64 3) := (blk_cell Q1.out.2.1 0).trans rfl; clear hbox hb g1 hb1 hg4) | ((with_reducible refine gate_dst (N := 5) rfl ?_); refine box_event (by rfl) (N := 5) (by rfl) (cs := #[.int .i64 0]) (t := 3) gS ?_; intro gb5 hg5 w4 hbox hb; have Q2 := as_ (put_st2 hbox (blk_below Q1.out.1 hb) (blk_below Q1.out.2.1 hb) (by have := blk_lt Q1.out.1; omega) (by have := blk_lt Q1.out.2.1; omega) (below_step Q1.out.2.2 hb) (by have := below_size Q1.out.2.2; omega) (.int .i64 64)); have c5 : w4.cell? ⟨gb5, 0, none⟩ = some (.int .i64 0) := (blk_cell hbox 0).trans rfl; have f5 := blk_frozen hbox 0; have q0b : (w4.setCell ⟨gb5, 0, none⟩ (.int .i64 64)).cell? ⟨w.heap.size, 0, none⟩ = some (.int .i64 3) := (blk_cell Q2.out.2.2.1 0).trans rfl; clear hbox hb hg5) | (go_at_call 40; ((with_reducible refine (col_put3.calls gb4 gb5 w.heap.size 64 k a0_2 x _ ((blk_cell Q2.out.2.1 0).trans rfl) ((blk_cell Q2.out.1 0).trans rfl) ((blk_cell Q2.out.2.2.1 2).trans rfl) (blk_lt Q2.out.2.1) (blk_lt Q2.out.1) (blk_lt Q2.out.2.2.1) hx.out hz.out.1).mono ?_); rintro e w5 ⟨rfl, hb⟩; have HBF := as_ (below_step Q2.out.2.2.2 hb); clear hb)))
   go_ret2
   exact ⟨rfl, by repeat (first | exact HBF.out | apply pw_below_drewN | apply below_drew1)⟩
  rw [if_neg c3] at H
  by_cases c4 : a0_0 = 4
  ·rw [if_pos c4] at H
   clear c0 c1 c2 c3
   subst c4
   obtain ⟨x, hx0, y, hx1, z, hx2, rfl, rfl⟩ := put_three H
   have hx := Aside0.mk hx0
   have hz := as_ (put_app3 hx1 hx2)
   rw [(put_app3 hx1 hx2).2]
   clear hx0 hx1 hx2 H
   go_enter Tryd.func23, Tryd.ntmps23
   go_wp2_with (first | (go_at_call 34; (with_reducible refine (col_Right.calls k 4 a0_1 a0_2 a0_3 true _ A1.out).mono ?_); rintro e w1 ⟨rfl, hb⟩; have g1 := as_ (blk_below (blk_new w (.cells #[.int .i64 4, .int .i64 a0_1, .int .u64 a0_2, .string a0_3] 51)) hb); have hb1 := as_ (below_step (below_alloc (Below.refl _ _) _) hb); clear hb) | ((with_reducible refine gate_dst (N := 4) rfl ?_); refine box_event (by rfl) (N := 4) (by rfl) (cs := #[.nilFunc]) (t := 70) gS ?_; intro gb4 hg4 w2 hbox hb; have Q1 := as_ (put_st hbox (blk_below g1.out hb) (by have := blk_lt g1.out; omega) (below_step hb1.out hb) (by have := blk_lt g1.out; have := below_size hb1.out; omega) (.func (.func 35) #[] #[])); have c4 : w2.cell? ⟨gb4, 0, none⟩ = some .nilFunc := (blk_cell hbox 0).trans rfl; have f4 := blk_frozen hbox 0; have q0 : (w2.setCell ⟨gb4, 0, none⟩ (.func (.func 35) #[] #[])).cell? ⟨w.heap.size, 0, none⟩ = some (.int .i64 4) := (blk_cell Q1.out.2.1 0).trans rfl; clear hbox hb g1 hb1 hg4) | ((with_reducible refine gate_dst (N := 5) rfl ?_); refine box_event (by rfl) (N := 5) (by rfl) (cs := #[.int .i64 0]) (t := 3) gS ?_; intro gb5 hg5 w4 hbox hb; have Q2 := as_ (put_st2 hbox (blk_below Q1.out.1 hb) (blk_below Q1.out.2.1 hb) (by have := blk_lt Q1.out.1; omega) (by have := blk_lt Q1.out.2.1; omega) (below_step Q1.out.2.2 hb) (by have := below_size Q1.out.2.2; omega) (.int .i64 80)); have c5 : w4.cell? ⟨gb5, 0, none⟩ = some (.int .i64 0) := (blk_cell hbox 0).trans rfl; have f5 := blk_frozen hbox 0; have q0b : (w4.setCell ⟨gb5, 0, none⟩ (.int .i64 80)).cell? ⟨w.heap.size, 0, none⟩ = some (.int .i64 4) := (blk_cell Q2.out.2.2.1 0).trans rfl; clear hbox hb hg5) | (go_at_call 42; ((with_reducible refine (col_put4.calls gb4 gb5 w.heap.size 80 a0_3 x _ ((blk_cell Q2.out.2.1 0).trans rfl) ((blk_cell Q2.out.1 0).trans rfl) ((blk_cell Q2.out.2.2.1 3).trans rfl) (blk_lt Q2.out.2.1) (blk_lt Q2.out.1) (blk_lt Q2.out.2.2.1) hx.out hz.out.1).mono ?_); rintro e w5 ⟨rfl, hb⟩; have HBF := as_ (below_step Q2.out.2.2.2 hb); clear hb)))
   go_ret2
   exact ⟨rfl, by repeat (first | exact HBF.out | apply pw_below_drewN | apply below_drew1)⟩
  rw [if_neg c4] at H
  cases H


/-! ### key_Put: function 10 -/
def key_Put.l0 : Nat → ByteArray → List (S51) → Int → Int → Option (ByteArray × Int)
 | 0, _, _, _, _ => none
 | k + 1, x4, x9, x10, x11 => if x11 < x10 then (if 0 ≤ x11 then (if x11 < (x9.length : Int) then ((col_Put.f k ((rd_T51 x9 x11).f0) ((rd_T51 x9 x11).f1) ((rd_T51 x9 x11).f2) ((rd_T51 x9 x11).f3)).bind fun bt138 => (if bt138.2 = 0 then (if x4.size + bt138.1.size ≤ 9223372036854775807 then (key_Put.l0 k (x4 ++ bt138.1) x9 x10 (wrap64 (x11 + 1))) else (none)) else (some ((⟨#[]⟩ : ByteArray), bt138.2)))) else (none)) else (none)) else ((some (([1] : List Int) : List Int)).bind fun y140 => (if x4.size + (strOfNums y140).size ≤ 9223372036854775807 then (some (x4 ++ (strOfNums y140), 0)) else (none)))
def key_Put.f (k : Nat) (l0 : List (S51)) : Option (ByteArray × Int) := key_Put.l0 k (⟨#[]⟩ : ByteArray) l0 (l0.length : Int) 0
theorem key_Put.mono_l : ∀ k, (∀ y0 y1 y2 y3, LeO (key_Put.l0 k y0 y1 y2 y3) (key_Put.l0 (k + 1) y0 y1 y2 y3))
 | 0 => fun _ _ _ _ r h => by simp [key_Put.l0] at h
 | k + 1 => by
  have ih0 := key_Put.mono_l k
  ·intro y0 y1 y2 y3
   unfold key_Put.l0
   repeat' first
   | (with_reducible exact ih0 _ _ _ _)
   | (with_reducible exact col_Put.mono _ _ _ _ _)
   | (with_reducible exact LeO.refl _)
   | (with_reducible exact LeO.none _)
   | (with_reducible refine LeO.ite ?_ ?_)
   | (with_reducible refine LeO.bind ?_ (fun _ => ?_))
   | exact ih0 _ _ _ _
   | exact col_Put.mono _ _ _ _ _
   | exact LeO.none _
   | refine LeO.ite ?_ ?_
   | refine LeO.bind ?_ (fun _ => ?_)
theorem key_Put.mono : ∀ a0 k, LeO (key_Put.f k a0) (key_Put.f (k + 1) a0) := by
 intro a0 k
 have ih0 := key_Put.mono_l k
 unfold key_Put.f
 repeat' first
   | (with_reducible exact ih0 _ _ _ _)
   | (with_reducible exact col_Put.mono _ _ _ _ _)
   | (with_reducible exact LeO.refl _)
   | (with_reducible exact LeO.none _)
   | (with_reducible refine LeO.ite ?_ ?_)
   | (with_reducible refine LeO.bind ?_ (fun _ => ?_))
   | exact ih0 _ _ _ _
   | exact col_Put.mono _ _ _ _ _
   | exact LeO.none _
   | refine LeO.ite ?_ ?_
   | refine LeO.bind ?_ (fun _ => ?_)
set_option maxHeartbeats 8000000 in
set_option maxRecDepth 100000 in
theorem key_Put.calls (k : Nat) (A0 : Option Addr) (c0 : Nat) (l0 : List (S51)) (r1 : ByteArray) (r2 : Int) (w : World) (hr0 : Kd.C k51 w A0 l0.length l0) (hc0 : l0.length ≤ c0) (h : key_Put.f k l0 = some (r1, r2)) :
  Calls Tryd.prog 10 #[.slice A0 l0.length c0] w fun e w' => e = .returned (.tuple #[.string r1, .int .i64 r2]) ∧ Below w.heap.size w w' := by
 have hu51 := Tryd.underlying51
 have HR0 := Aside0.mk hr0
 have HC0 := Aside0.mk hc0
 clear hr0 hc0
 have HB := as_ (Below.refl w.heap.size w)
 have H : (key_Put.l0 k (⟨#[]⟩ : ByteArray) l0 (l0.length : Int) 0) = some (r1, r2) := h
 clear h
 have H' := Aside0.mk H
 clear H
 go_enter Tryd.func10, Tryd.ntmps10
 go_wp2
 go_loopg [4, 11] k (fun kq v4 v11 w' => ∃ (x4_1 : ByteArray) (x11_1 : Int), v4 = .string x4_1 ∧ v11 = .int .i64 x11_1 ∧ Aside0 (key_Put.l0 kq x4_1 l0 (l0.length : Int) x11_1 = some (r1, r2)) ∧ Aside0 (kq ≤ k) ∧ Aside0 (Below w.heap.size w w'))
 case atStart => exact ⟨((⟨#[]⟩ : ByteArray)), (0), (by first | rfl | (simp; done) | (simp [*]; done)), (by first | rfl | (simp; done) | (simp [*]; done)), H', ⟨Nat.le_refl _⟩, ⟨by repeat (first | (with_reducible first | exact HB.out | apply below_alloc | apply pw_below_drewN | apply below_drew1) | exact HB.out)⟩⟩
 case round =>
  clear H'
  try clear c1
  obtain ⟨x4_1, x11_1, rfl, rfl, HA, HK1, HB⟩ := hrel
  cases gk with
  | zero => exact absurd HA.out (by simp [key_Put.l0])
  | succ k1 =>
   have H := HA.out
   clear HA
   simp only [key_Put.l0] at H
   by_cases c2 : x11_1 < (l0.length : Int)
   rotate_left
   ·rw [if_neg c2] at H
    have c2b0 : decide (x11_1 < (l0.length : Int)) = false := decide_eq_false c2
    clear c2
    obtain ⟨y140, hy140⟩ : ∃ y_ : List Int, y_ = (([1] : List Int)) := ⟨_, rfl⟩
    replace H : (if x4_1.size + (strOfNums y140).size ≤ 9223372036854775807 then (some (x4_1 ++ (strOfNums y140), 0)) else (none)) = some (r1, r2) := by first | (rw [hy140]; with_reducible exact H) | (have H2_ := (Option.bind_some _ _).symm.trans H; rw [hy140]; with_reducible exact H2_) | (have H2_ := (Option.bind_some _ _).symm.trans H; with_reducible exact H2_) | with_reducible exact H | (rw [hy140]; exact H) | exact H
    have Ny140 := Aside0.mk hy140
    clear hy140
    by_cases c15 : x4_1.size + (strOfNums y140).size ≤ 9223372036854775807
    rotate_left
    ·rw [if_neg c15] at H
     exact absurd H (by simp)
  
    rw [if_pos c15] at H
    have c15b0 := eq_true c15
    have c15b1 : decide (x4_1.size + (strOfNums y140).size ≤ 9223372036854775807) = true := decide_eq_true c15
    try have c15b2 : (9223372036854775807 < x4_1.size + (strOfNums y140).size) = False := eq_false (Nat.not_lt.2 c15)
    obtain ⟨js16, hjs16⟩ : ∃ j_ : ByteArray, (x4_1 ++ (strOfNums y140)) = j_ := ⟨_, rfl⟩
    replace H : (some (js16, 0)) = some (r1, r2) := by first | (rw [hjs16] at H; exact H) | (simp only [hjs16] at H ⊢; exact H)
    simp only [Option.some.injEq, Prod.mk.injEq] at H
    obtain ⟨rfl, rfl⟩ := H
    go_wp2_with (first | ((with_reducible refine gate_dst (N := 28) rfl ?_); refine Kd.R_lit (Kd.int .u8) _ 5 ?hg (N := 28) ?hd (xs := ([1] : List Int)) (inner := [.int .u8 1]) (ok := fun _ => True) (okp := fun _ => True) ?hr ?hp (fun _ hk => hk) trivial (Below.refl _ _) (Nat.le_refl _) (by simp) ?_; (case hd => rfl); (case hg => rfl); (case hr => first | (go_simp; done) | (go_simp; rfl)); (case hp => exact (Reps.one (show Kd.M (Kd.int .u8) _ _ _ 1 [.int .u8 1] from rfl) (Reps.none _ _))); intro v141 w17 ho18 hb hg_ hnew_; clear hg_ hnew_; (first | rw [← Ny140.out] at ho18 | (simp only [Int.reduceToNat] at ho18; rw [← Ny140.out] at ho18)); have HO142 := as_ (Kd.R_lower ho18 (below_size bA)); replace HB := as_ (below_step bA hb); clear hb ho18; have hcv19 := own_string (P := Tryd.prog) Tryd.underlying45 Tryd.underlying5 Tryd.underlying9 (Kd.own_of_R HO142.out)))
    go_ret2
    exact ⟨by first | rfl | (simp [errW_none, errW_some] <;> rfl) | (simp only [← hjs16]; first | rfl | (simp [errW_none, errW_some] <;> rfl)) | (simp [*, errW_none, errW_some] <;> rfl), by repeat (first | (with_reducible first | exact HB.out | apply below_alloc | apply pw_below_drewN | apply below_drew1) | exact HB.out)⟩
   rw [if_pos c2] at H
   have c2b0 : decide (x11_1 < (l0.length : Int)) = true := decide_eq_true c2
   clear c2
   by_cases c3 : 0 ≤ x11_1
   rotate_left
   ·rw [if_neg c3] at H
    exact absurd H (by simp)
   rw [if_pos c3] at H
   have c3b0 : decide (0 ≤ x11_1) = true := decide_eq_true c3
   clear c3
   by_cases c4 : x11_1 < (l0.length : Int)
   rotate_left
   ·rw [if_neg c4] at H
    exact absurd H (by simp)
   rw [if_pos c4] at H
   have c4b0 : decide (x11_1 < (l0.length : Int)) = true := decide_eq_true c4
   clear c4
   replace H := bM H
   obtain ⟨⟨t138, t139⟩, A50, H⟩ := H
   replace H : (if t139 = 0 then (if x4_1.size + t138.size ≤ 9223372036854775807 then (key_Put.l0 k1 (x4_1 ++ t138) l0 (l0.length : Int) (wrap64 (x11_1 + 1))) else (none)) else (some ((⟨#[]⟩ : ByteArray), t139))) = some (r1, r2) := H
   have A5 := Aside0.mk A50
   clear A50
   by_cases c6 : t139 = 0
   rotate_left
   ·rw [if_neg c6] at H
    have c6b0 : (t139 == 0) = false := beq_eq_false_iff_ne.mpr c6
    have c6b1 : (t139 != 0) = true := bne_iff_ne.mpr c6
    simp only [Option.some.injEq, Prod.mk.injEq] at H
    obtain ⟨rfl, rfl⟩ := H
    have p136 : 0 ≤ (x11_1 : Int) := of_decide_eq_true aM
    have q136 : x11_1 < (l0.length : Int) := of_decide_eq_true aM
    obtain ⟨ad136, e136, hx136_0, hx136_1, hx136_2, hx136_3⟩ := at_T51 HR0.out x11_1 p136 q136
    cases e136
    replace hx136_0 := (HB.out.cell (World.block_lt_of_cell? w _ hx136_0)).trans hx136_0
    replace hx136_1 := (HB.out.cell (World.block_lt_of_cell? w _ hx136_1)).trans hx136_1
    replace hx136_2 := (HB.out.cell (World.block_lt_of_cell? w _ hx136_2)).trans hx136_2
    replace hx136_3 := (HB.out.cell (World.block_lt_of_cell? w _ hx136_3)).trans hx136_3
    replace p136 := eq_true p136
    replace q136 := eq_true q136
    go_wp2_with (first | ((with_reducible refine gate_dst (N := 6) rfl ?_); refine box_event ?hg (N := 6) ?hd (cs := #[.int .i64 0, .int .i64 0, .int .u64 0, .string (⟨#[]⟩ : ByteArray)]) (t := 51) ?hr ?_; (case hd => rfl); (case hg => rfl); (case hr => first | (go_simp; done) | (go_simp; rfl)); intro gb137 hg w12 hbox hb; have BK137 := as_ (hbox); have GW137 := gw hg bA; have GE137 := gw hg bA; replace HB := as_ (below_step bA hb); clear hb hbox hg; obtain ⟨hcz13_0, hcz13_1, hcz13_2, hcz13_3⟩ := zc4 BK137; obtain ⟨hfz13_0, hfz13_1, hfz13_2, hfz13_3⟩ := zf4 BK137) | ((with_reducible refine gate_callee (f := 23) rfl ?_); refine goesL_ (some 17) rfl rfl Tryd.func23 (by kernel_rfl) rfl #[.agg #[.int .i64 ((rd_T51 l0 x11_1).f0), .int .i64 ((rd_T51 l0 x11_1).f1), .int .u64 ((rd_T51 l0 x11_1).f2), .string ((rd_T51 l0 x11_1).f3)]] rfl aO ?_; (with_reducible refine (col_Put.calls k1 ((rd_T51 l0 x11_1).f0) ((rd_T51 l0 x11_1).f1) ((rd_T51 l0 x11_1).f2) ((rd_T51 l0 x11_1).f3) t138 t139 _ A5.out).mono ?_); rintro e w14 ⟨rfl, hb⟩; refine ⟨_, rfl, ?_⟩; replace BK137 := as_ (blk_below (g := gb137) (o := .cells #[.int .i64 ((rd_T51 l0 x11_1).f0), .int .i64 ((rd_T51 l0 x11_1).f1), .int .u64 ((rd_T51 l0 x11_1).f2), .string ((rd_T51 l0 x11_1).f3)] 51 (0, 0)) (by refine bx ?_; refine blk_put (cs := #[.int .i64 ((rd_T51 l0 x11_1).f0), .int .i64 ((rd_T51 l0 x11_1).f1), .int .u64 ((rd_T51 l0 x11_1).f2), .string (⟨#[]⟩ : ByteArray)]) ?_ 3 _ rfl; refine bx ?_; refine blk_put (cs := #[.int .i64 ((rd_T51 l0 x11_1).f0), .int .i64 ((rd_T51 l0 x11_1).f1), .int .u64 0, .string (⟨#[]⟩ : ByteArray)]) ?_ 2 _ rfl; refine bx ?_; refine blk_put (cs := #[.int .i64 ((rd_T51 l0 x11_1).f0), .int .i64 0, .int .u64 0, .string (⟨#[]⟩ : ByteArray)]) ?_ 1 _ rfl; refine bx ?_; refine blk_put (cs := #[.int .i64 0, .int .i64 0, .int .u64 0, .string (⟨#[]⟩ : ByteArray)]) ?_ 0 _ rfl; refine bx ?_; exact BK137.out) hb); replace HB := as_ (below_step bA hb); (try clear hb); (try clear hb2); (try clear hk); (try clear hi)))
    go_ret2
    exact ⟨eW, by repeat (first | (with_reducible first | exact HB.out | apply below_alloc | apply pw_below_drewN | apply below_drew1 | refine below_set ?_ GE137.out) | exact HB.out)⟩
   rw [if_pos c6] at H
   have c6b0 : (t139 == 0) = true := beq_iff_eq.mpr c6
   have c6b1 : (t139 != 0) = false := bne_eq_false_iff_eq.mpr c6
   clear c6
   by_cases c7 : x4_1.size + t138.size ≤ 9223372036854775807
   rotate_left
   ·rw [if_neg c7] at H
    exact absurd H (by simp)
   rw [if_pos c7] at H
   have c7b0 := eq_true c7
   have c7b1 : decide (x4_1.size + t138.size ≤ 9223372036854775807) = true := decide_eq_true c7
   try have c7b2 : (9223372036854775807 < x4_1.size + t138.size) = False := eq_false (Nat.not_lt.2 c7)
   obtain ⟨js8, hjs8⟩ : ∃ j_ : ByteArray, (x4_1 ++ t138) = j_ := ⟨_, rfl⟩
   replace H : (key_Put.l0 k1 js8 l0 (l0.length : Int) (wrap64 (x11_1 + 1))) = some (r1, r2) := by first | (rw [hjs8] at H; exact H) | (simp only [hjs8] at H ⊢; exact H)
   (try rw [hjs8] at A5)
   have H' := Aside0.mk H
   clear H
   have p136 : 0 ≤ (x11_1 : Int) := of_decide_eq_true aM
   have q136 : x11_1 < (l0.length : Int) := of_decide_eq_true aM
   obtain ⟨ad136, e136, hx136_0, hx136_1, hx136_2, hx136_3⟩ := at_T51 HR0.out x11_1 p136 q136
   cases e136
   replace hx136_0 := (HB.out.cell (World.block_lt_of_cell? w _ hx136_0)).trans hx136_0
   replace hx136_1 := (HB.out.cell (World.block_lt_of_cell? w _ hx136_1)).trans hx136_1
   replace hx136_2 := (HB.out.cell (World.block_lt_of_cell? w _ hx136_2)).trans hx136_2
   replace hx136_3 := (HB.out.cell (World.block_lt_of_cell? w _ hx136_3)).trans hx136_3
   replace p136 := eq_true p136
   replace q136 := eq_true q136
   go_wp2_with (first | ((with_reducible refine gate_dst (N := 6) rfl ?_); refine box_event ?hg (N := 6) ?hd (cs := #[.int .i64 0, .int .i64 0, .int .u64 0, .string (⟨#[]⟩ : ByteArray)]) (t := 51) ?hr ?_; (case hd => rfl); (case hg => rfl); (case hr => first | (go_simp; done) | (go_simp; rfl)); intro gb137 hg w9 hbox hb; have BK137 := as_ (hbox); have GW137 := gw hg bA; have GE137 := gw hg bA; replace HB := as_ (below_step bA hb); clear hb hbox hg; obtain ⟨hcz10_0, hcz10_1, hcz10_2, hcz10_3⟩ := zc4 BK137; obtain ⟨hfz10_0, hfz10_1, hfz10_2, hfz10_3⟩ := zf4 BK137) | ((with_reducible refine gate_callee (f := 23) rfl ?_); refine goesL_ (some 17) rfl rfl Tryd.func23 (by kernel_rfl) rfl #[.agg #[.int .i64 ((rd_T51 l0 x11_1).f0), .int .i64 ((rd_T51 l0 x11_1).f1), .int .u64 ((rd_T51 l0 x11_1).f2), .string ((rd_T51 l0 x11_1).f3)]] rfl aO ?_; (with_reducible refine (col_Put.calls k1 ((rd_T51 l0 x11_1).f0) ((rd_T51 l0 x11_1).f1) ((rd_T51 l0 x11_1).f2) ((rd_T51 l0 x11_1).f3) t138 t139 _ A5.out).mono ?_); rintro e w11 ⟨rfl, hb⟩; refine ⟨_, rfl, ?_⟩; replace BK137 := as_ (blk_below (g := gb137) (o := .cells #[.int .i64 ((rd_T51 l0 x11_1).f0), .int .i64 ((rd_T51 l0 x11_1).f1), .int .u64 ((rd_T51 l0 x11_1).f2), .string ((rd_T51 l0 x11_1).f3)] 51 (0, 0)) (by refine bx ?_; refine blk_put (cs := #[.int .i64 ((rd_T51 l0 x11_1).f0), .int .i64 ((rd_T51 l0 x11_1).f1), .int .u64 ((rd_T51 l0 x11_1).f2), .string (⟨#[]⟩ : ByteArray)]) ?_ 3 _ rfl; refine bx ?_; refine blk_put (cs := #[.int .i64 ((rd_T51 l0 x11_1).f0), .int .i64 ((rd_T51 l0 x11_1).f1), .int .u64 0, .string (⟨#[]⟩ : ByteArray)]) ?_ 2 _ rfl; refine bx ?_; refine blk_put (cs := #[.int .i64 ((rd_T51 l0 x11_1).f0), .int .i64 0, .int .u64 0, .string (⟨#[]⟩ : ByteArray)]) ?_ 1 _ rfl; refine bx ?_; refine blk_put (cs := #[.int .i64 0, .int .i64 0, .int .u64 0, .string (⟨#[]⟩ : ByteArray)]) ?_ 0 _ rfl; refine bx ?_; exact BK137.out) hb); replace HB := as_ (below_step bA hb); (try clear hb); (try clear hb2); (try clear hk); (try clear hi)))
   go_roundg k1
   case measure => have := HK1.out; omega
   case rel => exact ⟨(js8), (wrap64 (x11_1 + 1)), (by first | rfl | (simp; done) | (simp only [← hjs8] <;> (first | rfl | simp)) | (simp [*]; done)), (by first | rfl | (simp; done) | (simp [*]; done)), H', ⟨by have := HK1.out; omega⟩, ⟨by repeat (first | (with_reducible first | exact HB.out | apply below_alloc | apply pw_below_drewN | apply below_drew1 | refine below_set ?_ GE137.out) | exact HB.out)⟩⟩
/-! ### withyref03_Right: function 28 -/
def withyref03_Right.f (a0_0 : Int) (a0_1 : Int) (a0_2 : Int) (a0_3 : ByteArray) : Option (Bool) := if a0_0 = 0 then (if a0_1 = 0 then (if a0_2 = 0 then (some (a0_3.toList == ([] : List UInt8))) else (some false)) else (some false)) else (if a0_0 = 1 then (if a0_1 = 0 then (if a0_2 ≤ 1 then (some (a0_3.toList == ([] : List UInt8))) else (some false)) else (some false)) else (if a0_0 = 2 then (if a0_2 = 0 then (some (a0_3.toList == ([] : List UInt8))) else (some false)) else (if a0_0 = 3 then (if a0_1 = 0 then (some (a0_3.toList == ([] : List UInt8))) else (some false)) else (if a0_0 = 4 then (if a0_1 = 0 then (some (a0_2 == 0)) else (some false)) else (some false)))))
set_option maxHeartbeats 8000000 in
set_option maxRecDepth 100000 in
theorem withyref03_Right.calls (a0_0 : Int) (a0_1 : Int) (a0_2 : Int) (a0_3 : ByteArray) (r : Bool) (w : World) (h : withyref03_Right.f a0_0 a0_1 a0_2 a0_3 = some r) :
  Calls Tryd.prog 28 #[.agg #[.int .i64 a0_0, .int .i64 a0_1, .int .u64 a0_2, .string a0_3]] w fun e w' => e = .returned (.bool r) ∧ Below w.heap.size w w' := by
 have hu56 := Tryd.underlying56
 have HB := as_ (Below.refl w.heap.size w)
 have H : (if a0_0 = 0 then (if a0_1 = 0 then (if a0_2 = 0 then (some (a0_3.toList == ([] : List UInt8))) else (some false)) else (some false)) else (if a0_0 = 1 then (if a0_1 = 0 then (if a0_2 ≤ 1 then (some (a0_3.toList == ([] : List UInt8))) else (some false)) else (some false)) else (if a0_0 = 2 then (if a0_2 = 0 then (some (a0_3.toList == ([] : List UInt8))) else (some false)) else (if a0_0 = 3 then (if a0_1 = 0 then (some (a0_3.toList == ([] : List UInt8))) else (some false)) else (if a0_0 = 4 then (if a0_1 = 0 then (some (a0_2 == 0)) else (some false)) else (some false)))))) = some r := h
 clear h
 by_cases c2 : a0_0 = 0
 ·rw [if_pos c2] at H
  have c2b0 : (a0_0 == 0) = true := beq_iff_eq.mpr c2
  have c2b1 : (a0_0 != 0) = false := bne_eq_false_iff_eq.mpr c2
  clear c2
  by_cases c3 : a0_1 = 0
  rotate_left
  ·rw [if_neg c3] at H
   have c3b0 : (a0_1 == 0) = false := beq_eq_false_iff_ne.mpr c3
   have c3b1 : (a0_1 != 0) = true := bne_iff_ne.mpr c3
   obtain rfl := Option.some.inj H
   go_enter Tryd.func28, Tryd.ntmps28
   go_wp2_with (first | ((with_reducible refine gate_dst (N := 1) rfl ?_); refine box_event (by rfl) (N := 1) (by rfl) (cs := #[.int .i64 a0_0, .int .i64 a0_1, .int .u64 a0_2, .string a0_3]) (t := 56) gS ?_; intro gb143 hg w9 hbox hb; have BK143 := as_ (hbox); have GW143 := gw hg bA; have GE143 := gw hg bA; replace HB := as_ (below_step bA hb); clear hb hbox hg; obtain ⟨hcz10_0, hcz10_1, hcz10_2, hcz10_3⟩ := zc4 BK143; obtain ⟨hfz10_0, hfz10_1, hfz10_2, hfz10_3⟩ := zf4 BK143))
   go_ret
   exact ⟨eW, by repeat (first | (with_reducible first | exact HB.out | apply below_alloc | apply pw_below_drewN | apply below_drew1 | refine below_set ?_ GE143.out) | exact HB.out)⟩
  rw [if_pos c3] at H
  have c3b0 : (a0_1 == 0) = true := beq_iff_eq.mpr c3
  have c3b1 : (a0_1 != 0) = false := bne_eq_false_iff_eq.mpr c3
  clear c3
  by_cases c4 : a0_2 = 0
  rotate_left
  ·rw [if_neg c4] at H
   have c4b0 : (a0_2 == 0) = false := beq_eq_false_iff_ne.mpr c4
   have c4b1 : (a0_2 != 0) = true := bne_iff_ne.mpr c4
   obtain rfl := Option.some.inj H
   go_enter Tryd.func28, Tryd.ntmps28
   go_wp2_with (first | ((with_reducible refine gate_dst (N := 1) rfl ?_); refine box_event (by rfl) (N := 1) (by rfl) (cs := #[.int .i64 a0_0, .int .i64 a0_1, .int .u64 a0_2, .string a0_3]) (t := 56) gS ?_; intro gb143 hg w7 hbox hb; have BK143 := as_ (hbox); have GW143 := gw hg bA; have GE143 := gw hg bA; replace HB := as_ (below_step bA hb); clear hb hbox hg; obtain ⟨hcz8_0, hcz8_1, hcz8_2, hcz8_3⟩ := zc4 BK143; obtain ⟨hfz8_0, hfz8_1, hfz8_2, hfz8_3⟩ := zf4 BK143))
   go_ret
   exact ⟨eW, by repeat (first | (with_reducible first | exact HB.out | apply below_alloc | apply pw_below_drewN | apply below_drew1 | refine below_set ?_ GE143.out) | exact HB.out)⟩
  rw [if_pos c4] at H
  have c4b0 : (a0_2 == 0) = true := beq_iff_eq.mpr c4
  have c4b1 : (a0_2 != 0) = false := bne_eq_false_iff_eq.mpr c4
  clear c4
  obtain rfl := Option.some.inj H
  go_enter Tryd.func28, Tryd.ntmps28
  go_wp2_with (first | ((with_reducible refine gate_dst (N := 1) rfl ?_); refine box_event (by rfl) (N := 1) (by rfl) (cs := #[.int .i64 a0_0, .int .i64 a0_1, .int .u64 a0_2, .string a0_3]) (t := 56) gS ?_; intro gb143 hg w5 hbox hb; have BK143 := as_ (hbox); have GW143 := gw hg bA; have GE143 := gw hg bA; replace HB := as_ (below_step bA hb); clear hb hbox hg; obtain ⟨hcz6_0, hcz6_1, hcz6_2, hcz6_3⟩ := zc4 BK143; obtain ⟨hfz6_0, hfz6_1, hfz6_2, hfz6_3⟩ := zf4 BK143))
  go_ret
  exact ⟨eW, by repeat (first | (with_reducible first | exact HB.out | apply below_alloc | apply pw_below_drewN | apply below_drew1 | refine below_set ?_ GE143.out) | exact HB.out)⟩
 rw [if_neg c2] at H
 have c2b0 : (a0_0 == 0) = false := beq_eq_false_iff_ne.mpr c2
 have c2b1 : (a0_0 != 0) = true := bne_iff_ne.mpr c2
 by_cases c11 : a0_0 = 1
 ·rw [if_pos c11] at H
  have c11b0 : (a0_0 == 1) = true := beq_iff_eq.mpr c11
  have c11b1 : (a0_0 != 1) = false := bne_eq_false_iff_eq.mpr c11
  clear c11
  by_cases c12 : a0_1 = 0
  rotate_left
  ·rw [if_neg c12] at H
   have c12b0 : (a0_1 == 0) = false := beq_eq_false_iff_ne.mpr c12
   have c12b1 : (a0_1 != 0) = true := bne_iff_ne.mpr c12
   obtain rfl := Option.some.inj H
   go_enter Tryd.func28, Tryd.ntmps28
   go_wp2_with (first | ((with_reducible refine gate_dst (N := 1) rfl ?_); refine box_event (by rfl) (N := 1) (by rfl) (cs := #[.int .i64 a0_0, .int .i64 a0_1, .int .u64 a0_2, .string a0_3]) (t := 56) gS ?_; intro gb143 hg w18 hbox hb; have BK143 := as_ (hbox); have GW143 := gw hg bA; have GE143 := gw hg bA; replace HB := as_ (below_step bA hb); clear hb hbox hg; obtain ⟨hcz19_0, hcz19_1, hcz19_2, hcz19_3⟩ := zc4 BK143; obtain ⟨hfz19_0, hfz19_1, hfz19_2, hfz19_3⟩ := zf4 BK143))
   go_ret
   exact ⟨eW, by repeat (first | (with_reducible first | exact HB.out | apply below_alloc | apply pw_below_drewN | apply below_drew1 | refine below_set ?_ GE143.out) | exact HB.out)⟩
  rw [if_pos c12] at H
  have c12b0 : (a0_1 == 0) = true := beq_iff_eq.mpr c12
  have c12b1 : (a0_1 != 0) = false := bne_eq_false_iff_eq.mpr c12
  clear c12
  by_cases c13 : a0_2 ≤ 1
  rotate_left
  ·rw [if_neg c13] at H
   have c13b0 : decide (a0_2 ≤ 1) = false := decide_eq_false c13
   clear c13
   obtain rfl := Option.some.inj H
   go_enter Tryd.func28, Tryd.ntmps28
   go_wp2_with (first | ((with_reducible refine gate_dst (N := 1) rfl ?_); refine box_event (by rfl) (N := 1) (by rfl) (cs := #[.int .i64 a0_0, .int .i64 a0_1, .int .u64 a0_2, .string a0_3]) (t := 56) gS ?_; intro gb143 hg w16 hbox hb; have BK143 := as_ (hbox); have GW143 := gw hg bA; have GE143 := gw hg bA; replace HB := as_ (below_step bA hb); clear hb hbox hg; obtain ⟨hcz17_0, hcz17_1, hcz17_2, hcz17_3⟩ := zc4 BK143; obtain ⟨hfz17_0, hfz17_1, hfz17_2, hfz17_3⟩ := zf4 BK143))
   go_ret
   exact ⟨eW, by repeat (first | (with_reducible first | exact HB.out | apply below_alloc | apply pw_below_drewN | apply below_drew1 | refine below_set ?_ GE143.out) | exact HB.out)⟩
  rw [if_pos c13] at H
  have c13b0 : decide (a0_2 ≤ 1) = true := decide_eq_true c13
  clear c13
  obtain rfl := Option.some.inj H
  go_enter Tryd.func28, Tryd.ntmps28
  go_wp2_with (first | ((with_reducible refine gate_dst (N := 1) rfl ?_); refine box_event (by rfl) (N := 1) (by rfl) (cs := #[.int .i64 a0_0, .int .i64 a0_1, .int .u64 a0_2, .string a0_3]) (t := 56) gS ?_; intro gb143 hg w14 hbox hb; have BK143 := as_ (hbox); have GW143 := gw hg bA; have GE143 := gw hg bA; replace HB := as_ (below_step bA hb); clear hb hbox hg; obtain ⟨hcz15_0, hcz15_1, hcz15_2, hcz15_3⟩ := zc4 BK143; obtain ⟨hfz15_0, hfz15_1, hfz15_2, hfz15_3⟩ := zf4 BK143))
  go_ret
  exact ⟨eW, by repeat (first | (with_reducible first | exact HB.out | apply below_alloc | apply pw_below_drewN | apply below_drew1 | refine below_set ?_ GE143.out) | exact HB.out)⟩
 rw [if_neg c11] at H
 have c11b0 : (a0_0 == 1) = false := beq_eq_false_iff_ne.mpr c11
 have c11b1 : (a0_0 != 1) = true := bne_iff_ne.mpr c11
 by_cases c20 : a0_0 = 2
 ·rw [if_pos c20] at H
  have c20b0 : (a0_0 == 2) = true := beq_iff_eq.mpr c20
  have c20b1 : (a0_0 != 2) = false := bne_eq_false_iff_eq.mpr c20
  clear c20
  by_cases c21 : a0_2 = 0
  rotate_left
  ·rw [if_neg c21] at H
   have c21b0 : (a0_2 == 0) = false := beq_eq_false_iff_ne.mpr c21
   have c21b1 : (a0_2 != 0) = true := bne_iff_ne.mpr c21
   obtain rfl := Option.some.inj H
   go_enter Tryd.func28, Tryd.ntmps28
   go_wp2_with (first | ((with_reducible refine gate_dst (N := 1) rfl ?_); refine box_event (by rfl) (N := 1) (by rfl) (cs := #[.int .i64 a0_0, .int .i64 a0_1, .int .u64 a0_2, .string a0_3]) (t := 56) gS ?_; intro gb143 hg w24 hbox hb; have BK143 := as_ (hbox); have GW143 := gw hg bA; have GE143 := gw hg bA; replace HB := as_ (below_step bA hb); clear hb hbox hg; obtain ⟨hcz25_0, hcz25_1, hcz25_2, hcz25_3⟩ := zc4 BK143; obtain ⟨hfz25_0, hfz25_1, hfz25_2, hfz25_3⟩ := zf4 BK143))
   go_ret
   exact ⟨eW, by repeat (first | (with_reducible first | exact HB.out | apply below_alloc | apply pw_below_drewN | apply below_drew1 | refine below_set ?_ GE143.out) | exact HB.out)⟩
  rw [if_pos c21] at H
  have c21b0 : (a0_2 == 0) = true := beq_iff_eq.mpr c21
  have c21b1 : (a0_2 != 0) = false := bne_eq_false_iff_eq.mpr c21
  clear c21
  obtain rfl := Option.some.inj H
  go_enter Tryd.func28, Tryd.ntmps28
  go_wp2_with (first | ((with_reducible refine gate_dst (N := 1) rfl ?_); refine box_event (by rfl) (N := 1) (by rfl) (cs := #[.int .i64 a0_0, .int .i64 a0_1, .int .u64 a0_2, .string a0_3]) (t := 56) gS ?_; intro gb143 hg w22 hbox hb; have BK143 := as_ (hbox); have GW143 := gw hg bA; have GE143 := gw hg bA; replace HB := as_ (below_step bA hb); clear hb hbox hg; obtain ⟨hcz23_0, hcz23_1, hcz23_2, hcz23_3⟩ := zc4 BK143; obtain ⟨hfz23_0, hfz23_1, hfz23_2, hfz23_3⟩ := zf4 BK143))
  go_ret
  exact ⟨eW, by repeat (first | (with_reducible first | exact HB.out | apply below_alloc | apply pw_below_drewN | apply below_drew1 | refine below_set ?_ GE143.out) | exact HB.out)⟩
 rw [if_neg c20] at H
 have c20b0 : (a0_0 == 2) = false := beq_eq_false_iff_ne.mpr c20
 have c20b1 : (a0_0 != 2) = true := bne_iff_ne.mpr c20
 by_cases c26 : a0_0 = 3
 ·rw [if_pos c26] at H
  have c26b0 : (a0_0 == 3) = true := beq_iff_eq.mpr c26
  have c26b1 : (a0_0 != 3) = false := bne_eq_false_iff_eq.mpr c26
  clear c26
  by_cases c27 : a0_1 = 0
  rotate_left
  ·rw [if_neg c27] at H
   have c27b0 : (a0_1 == 0) = false := beq_eq_false_iff_ne.mpr c27
   have c27b1 : (a0_1 != 0) = true := bne_iff_ne.mpr c27
   obtain rfl := Option.some.inj H
   go_enter Tryd.func28, Tryd.ntmps28
   go_wp2_with (first | ((with_reducible refine gate_dst (N := 1) rfl ?_); refine box_event (by rfl) (N := 1) (by rfl) (cs := #[.int .i64 a0_0, .int .i64 a0_1, .int .u64 a0_2, .string a0_3]) (t := 56) gS ?_; intro gb143 hg w30 hbox hb; have BK143 := as_ (hbox); have GW143 := gw hg bA; have GE143 := gw hg bA; replace HB := as_ (below_step bA hb); clear hb hbox hg; obtain ⟨hcz31_0, hcz31_1, hcz31_2, hcz31_3⟩ := zc4 BK143; obtain ⟨hfz31_0, hfz31_1, hfz31_2, hfz31_3⟩ := zf4 BK143))
   go_ret
   exact ⟨eW, by repeat (first | (with_reducible first | exact HB.out | apply below_alloc | apply pw_below_drewN | apply below_drew1 | refine below_set ?_ GE143.out) | exact HB.out)⟩
  rw [if_pos c27] at H
  have c27b0 : (a0_1 == 0) = true := beq_iff_eq.mpr c27
  have c27b1 : (a0_1 != 0) = false := bne_eq_false_iff_eq.mpr c27
  clear c27
  obtain rfl := Option.some.inj H
  go_enter Tryd.func28, Tryd.ntmps28
  go_wp2_with (first | ((with_reducible refine gate_dst (N := 1) rfl ?_); refine box_event (by rfl) (N := 1) (by rfl) (cs := #[.int .i64 a0_0, .int .i64 a0_1, .int .u64 a0_2, .string a0_3]) (t := 56) gS ?_; intro gb143 hg w28 hbox hb; have BK143 := as_ (hbox); have GW143 := gw hg bA; have GE143 := gw hg bA; replace HB := as_ (below_step bA hb); clear hb hbox hg; obtain ⟨hcz29_0, hcz29_1, hcz29_2, hcz29_3⟩ := zc4 BK143; obtain ⟨hfz29_0, hfz29_1, hfz29_2, hfz29_3⟩ := zf4 BK143))
  go_ret
  exact ⟨eW, by repeat (first | (with_reducible first | exact HB.out | apply below_alloc | apply pw_below_drewN | apply below_drew1 | refine below_set ?_ GE143.out) | exact HB.out)⟩
 rw [if_neg c26] at H
 have c26b0 : (a0_0 == 3) = false := beq_eq_false_iff_ne.mpr c26
 have c26b1 : (a0_0 != 3) = true := bne_iff_ne.mpr c26
 by_cases c32 : a0_0 = 4
 rotate_left
 ·rw [if_neg c32] at H
  have c32b0 : (a0_0 == 4) = false := beq_eq_false_iff_ne.mpr c32
  have c32b1 : (a0_0 != 4) = true := bne_iff_ne.mpr c32
  obtain rfl := Option.some.inj H
  go_enter Tryd.func28, Tryd.ntmps28
  go_wp2_with (first | ((with_reducible refine gate_dst (N := 1) rfl ?_); refine box_event (by rfl) (N := 1) (by rfl) (cs := #[.int .i64 a0_0, .int .i64 a0_1, .int .u64 a0_2, .string a0_3]) (t := 56) gS ?_; intro gb143 hg w38 hbox hb; have BK143 := as_ (hbox); have GW143 := gw hg bA; have GE143 := gw hg bA; replace HB := as_ (below_step bA hb); clear hb hbox hg; obtain ⟨hcz39_0, hcz39_1, hcz39_2, hcz39_3⟩ := zc4 BK143; obtain ⟨hfz39_0, hfz39_1, hfz39_2, hfz39_3⟩ := zf4 BK143))
  go_ret
  exact ⟨eW, by repeat (first | (with_reducible first | exact HB.out | apply below_alloc | apply pw_below_drewN | apply below_drew1 | refine below_set ?_ GE143.out) | exact HB.out)⟩
 
 rw [if_pos c32] at H
 have c32b0 : (a0_0 == 4) = true := beq_iff_eq.mpr c32
 have c32b1 : (a0_0 != 4) = false := bne_eq_false_iff_eq.mpr c32
 clear c32
 by_cases c33 : a0_1 = 0
 rotate_left
 ·rw [if_neg c33] at H
  have c33b0 : (a0_1 == 0) = false := beq_eq_false_iff_ne.mpr c33
  have c33b1 : (a0_1 != 0) = true := bne_iff_ne.mpr c33
  obtain rfl := Option.some.inj H
  go_enter Tryd.func28, Tryd.ntmps28
  go_wp2_with (first | ((with_reducible refine gate_dst (N := 1) rfl ?_); refine box_event (by rfl) (N := 1) (by rfl) (cs := #[.int .i64 a0_0, .int .i64 a0_1, .int .u64 a0_2, .string a0_3]) (t := 56) gS ?_; intro gb143 hg w36 hbox hb; have BK143 := as_ (hbox); have GW143 := gw hg bA; have GE143 := gw hg bA; replace HB := as_ (below_step bA hb); clear hb hbox hg; obtain ⟨hcz37_0, hcz37_1, hcz37_2, hcz37_3⟩ := zc4 BK143; obtain ⟨hfz37_0, hfz37_1, hfz37_2, hfz37_3⟩ := zf4 BK143))
  go_ret
  exact ⟨eW, by repeat (first | (with_reducible first | exact HB.out | apply below_alloc | apply pw_below_drewN | apply below_drew1 | refine below_set ?_ GE143.out) | exact HB.out)⟩
 rw [if_pos c33] at H
 have c33b0 : (a0_1 == 0) = true := beq_iff_eq.mpr c33
 have c33b1 : (a0_1 != 0) = false := bne_eq_false_iff_eq.mpr c33
 clear c33
 obtain rfl := Option.some.inj H
 go_enter Tryd.func28, Tryd.ntmps28
 go_wp2_with (first | ((with_reducible refine gate_dst (N := 1) rfl ?_); refine box_event (by rfl) (N := 1) (by rfl) (cs := #[.int .i64 a0_0, .int .i64 a0_1, .int .u64 a0_2, .string a0_3]) (t := 56) gS ?_; intro gb143 hg w34 hbox hb; have BK143 := as_ (hbox); have GW143 := gw hg bA; have GE143 := gw hg bA; replace HB := as_ (below_step bA hb); clear hb hbox hg; obtain ⟨hcz35_0, hcz35_1, hcz35_2, hcz35_3⟩ := zc4 BK143; obtain ⟨hfz35_0, hfz35_1, hfz35_2, hfz35_3⟩ := zf4 BK143))
 go_ret
 exact ⟨eW, by repeat (first | (with_reducible first | exact HB.out | apply below_alloc | apply pw_below_drewN | apply below_drew1 | refine below_set ?_ GE143.out) | exact HB.out)⟩
/-! ### withyref01_digits: function 55 -/
def withyref01_digits.l0 : Nat → Int → List Int → Option (List Int)
 | 0, _, _ => none
 | k + 1, x0, x3 => if x0 > 0 then ((some (([(Int.tmod x0 256) % 256] : List Int) : List Int)).bind fun y147 => (if y147.length + x3.length < 140737488355328 then (withyref01_digits.l0 k (IntKind.u64.wrap (Int.tdiv x0 256)) (y147 ++ x3)) else (none))) else (some x3)
def withyref01_digits.f (k : Nat) (a0 : Int) : Option (List Int) := withyref01_digits.l0 k a0 (([] : List Int))
theorem withyref01_digits.mono_l : ∀ k, (∀ y0 y1, LeO (withyref01_digits.l0 k y0 y1) (withyref01_digits.l0 (k + 1) y0 y1))
 | 0 => fun _ _ r h => by simp [withyref01_digits.l0] at h
 | k + 1 => by
  have ih0 := withyref01_digits.mono_l k
  ·intro y0 y1
   unfold withyref01_digits.l0
   repeat' first
   | (with_reducible exact ih0 _ _)
   | (with_reducible exact LeO.refl _)
   | (with_reducible exact LeO.none _)
   | (with_reducible refine LeO.ite ?_ ?_)
   | (with_reducible refine LeO.bind ?_ (fun _ => ?_))
   | exact ih0 _ _
   | exact LeO.none _
   | refine LeO.ite ?_ ?_
   | refine LeO.bind ?_ (fun _ => ?_)
theorem withyref01_digits.mono : ∀ a0 k, LeO (withyref01_digits.f k a0) (withyref01_digits.f (k + 1) a0) := by
 intro a0 k
 have ih0 := withyref01_digits.mono_l k
 unfold withyref01_digits.f
 repeat' first
   | (with_reducible exact ih0 _ _)
   | (with_reducible exact LeO.refl _)
   | (with_reducible exact LeO.none _)
   | (with_reducible refine LeO.ite ?_ ?_)
   | (with_reducible refine LeO.bind ?_ (fun _ => ?_))
   | exact ih0 _ _
   | exact LeO.none _
   | refine LeO.ite ?_ ?_
   | refine LeO.bind ?_ (fun _ => ?_)
set_option maxHeartbeats 8000000 in
set_option maxRecDepth 100000 in
theorem withyref01_digits.calls (k : Nat) (a0 : Int) (r : List Int) (w : World) (h : withyref01_digits.f k a0 = some r) :
  Calls Tryd.prog 55 #[.int .u64 a0] w fun e w' => ∃ v0_ : Value, e = .returned (v0_) ∧ Kd.R (Kd.int .u8) 5 w' w.heap.size (fun _ => True) v0_ r ∧ Below w.heap.size w w' := by
 have HB := as_ (Below.refl w.heap.size w)
 have H : (withyref01_digits.l0 k a0 (([] : List Int))) = some r := h
 clear h
 obtain ⟨y144, hy144⟩ : ∃ y_ : List Int, y_ = (([] : List Int)) := ⟨_, rfl⟩
 replace H : (withyref01_digits.l0 k a0 y144) = some r := by first | (rw [hy144]; with_reducible exact H) | (have H2_ := (Option.bind_some _ _).symm.trans H; rw [hy144]; with_reducible exact H2_) | (have H2_ := (Option.bind_some _ _).symm.trans H; with_reducible exact H2_) | with_reducible exact H | (rw [hy144]; exact H) | exact H
 have Ny144 := Aside0.mk hy144
 clear hy144
 have H' := Aside0.mk H
 clear H
 go_enter Tryd.func55, Tryd.ntmps55
 go_wp2_with (first | ((with_reducible refine gate_dst (N := 5) rfl ?_); refine Kd.R_lit (Kd.int .u8) _ 5 ?hg (N := 5) ?hd (xs := ([] : List Int)) (inner := []) (ok := fun _ => True) (okp := fun _ => True) ?hr ?hp (fun _ hk => hk) trivial (Below.refl _ _) (Nat.le_refl _) (by simp) ?_; (case hd => rfl); (case hg => rfl); (case hr => first | (go_simp; done) | (go_simp; rfl)); (case hp => exact (Reps.none _ _)); intro v145 w2 ho3 hb hg_ hnew_; clear hg_ hnew_; (first | rw [← Ny144.out] at ho3 | (simp only [Int.reduceToNat] at ho3; rw [← Ny144.out] at ho3)); have HO146 := as_ (Kd.R_lower ho3 (below_size bA)); replace HB := as_ (below_step bA hb); clear hb ho3))
 go_loopg [0, 3] k (fun kq v0 v3 w' => ∃ (x0_1 : Int) (x3_1 : List Int), v0 = .int .u64 x0_1 ∧ Aside0 (withyref01_digits.l0 kq x0_1 x3_1 = some r) ∧ Aside0 (kq ≤ k) ∧ Aside0 (Kd.R (Kd.int .u8) 5 w' w.heap.size (fun _ => True) v3 x3_1) ∧ Aside0 (Below w.heap.size w w'))
 case atStart => exact ⟨(a0), (y144), (by first | rfl | (simp; done) | (simp [*]; done)), H', ⟨Nat.le_refl _⟩, ⟨by (with_reducible repeat (first | apply Kd.R_alloc | apply Kd.R_drewN | apply Kd.R_drew)); exact HO146.out⟩, ⟨by repeat (first | (with_reducible first | exact HB.out | apply below_alloc | apply pw_below_drewN | apply below_drew1) | exact HB.out)⟩⟩
 case round =>
  clear H'
  try clear p2
  obtain ⟨x0_1, x3_1, rfl, HA, HK1, HO_3, HB⟩ := hrel
  cases gk with
  | zero => exact absurd HA.out (by simp [withyref01_digits.l0])
  | succ k1 =>
   have H := HA.out
   clear HA
   simp only [withyref01_digits.l0] at H
   by_cases c4 : x0_1 > 0
   rotate_left
   ·rw [if_neg c4] at H
    have c4b0 : decide (0 < x0_1) = false := decide_eq_false c4
    clear c4
    obtain rfl := Option.some.inj H
    go_wp2
    go_ret
    exact ⟨_, eW, by (with_reducible repeat (first | apply Kd.R_alloc | apply Kd.R_drewN | apply Kd.R_drew)); exact HO_3.out, by repeat (first | (with_reducible first | exact HB.out | apply below_alloc | apply pw_below_drewN | apply below_drew1) | exact HB.out)⟩
 
   rw [if_pos c4] at H
   have c4b0 : decide (0 < x0_1) = true := decide_eq_true c4
   clear c4
   obtain ⟨y147, hy147⟩ : ∃ y_ : List Int, y_ = (([(Int.tmod x0_1 256) % 256] : List Int)) := ⟨_, rfl⟩
   replace H : (if y147.length + x3_1.length < 140737488355328 then (withyref01_digits.l0 k1 (IntKind.u64.wrap (Int.tdiv x0_1 256)) (y147 ++ x3_1)) else (none)) = some r := by first | (rw [hy147]; with_reducible exact H) | (have H2_ := (Option.bind_some _ _).symm.trans H; rw [hy147]; with_reducible exact H2_) | (have H2_ := (Option.bind_some _ _).symm.trans H; with_reducible exact H2_) | with_reducible exact H | (rw [hy147]; exact H) | exact H
   have Ny147 := Aside0.mk hy147
   clear hy147
   by_cases c5 : y147.length + x3_1.length < 140737488355328
   rotate_left
   ·rw [if_neg c5] at H
    exact absurd H (by simp)
   rw [if_pos c5] at H
   have LMc5 := Aside0.mk c5
   clear c5
   obtain ⟨y150, hy150⟩ : ∃ y_ : List Int, y_ = (y147 ++ x3_1) := ⟨_, rfl⟩
   replace H : (withyref01_digits.l0 k1 (IntKind.u64.wrap (Int.tdiv x0_1 256)) y150) = some r := by first | (rw [hy150]; with_reducible exact H) | (have H2_ := (Option.bind_some _ _).symm.trans H; rw [hy150]; with_reducible exact H2_) | (have H2_ := (Option.bind_some _ _).symm.trans H; with_reducible exact H2_) | with_reducible exact H | (rw [hy150]; exact H) | exact H
   have Ny150 := Aside0.mk hy150
   clear hy150
   have H' := Aside0.mk H
   clear H
   go_wp2_with (first | ((with_reducible refine gate_dst (N := 11) rfl ?_); refine Kd.R_lit (Kd.int .u8) _ 5 ?hg (N := 11) ?hd (xs := ([(Int.tmod x0_1 256) % 256] : List Int)) (inner := [.int .u8 ((Int.tmod x0_1 256) % 256)]) (ok := fun _ => True) (okp := fun _ => True) ?hr ?hp (fun _ hk => hk) trivial (Below.refl _ _) (Nat.le_refl _) (by simp) ?_; (case hd => rfl); (case hg => rfl); (case hr => first | (go_simp; done) | (go_simp; rfl)); (case hp => exact (Reps.one (show Kd.M (Kd.int .u8) _ _ _ ((Int.tmod x0_1 256) % 256) [.int .u8 ((Int.tmod x0_1 256) % 256)] from rfl) (Reps.none _ _))); intro v148 w6 ho7 hb hg_ hnew_; clear hg_ hnew_; (first | rw [← Ny147.out] at ho7 | (simp only [Int.reduceToNat] at ho7; rw [← Ny147.out] at ho7)); have HO149 := as_ (Kd.R_lower (Kd.R_new' ho7 (Kd.R_lt (by (with_reducible repeat (first | apply Kd.R_alloc | apply Kd.R_drewN | apply Kd.R_drew)); exact HO_3.out))) (below_size bA)); replace HO_3 := as_ (Kd.R_elder' (by (with_reducible repeat (first | apply Kd.R_alloc | apply Kd.R_drewN | apply Kd.R_drew)); exact HO_3.out) (Kd.R_base ho7) hb); replace HB := as_ (below_step bA hb); clear hb ho7; obtain ⟨Ao9, co9, eo9⟩ := Kd.R_slice HO_3.out; subst eo9) | ((with_reducible refine gate_builtin (b := .append) (xs := #[.tmp 12, .tmp 13]) rfl ?_); at_builtin; refine Kd.R_append_rows (Kd.int .u8) (w0 := w) w.heap.size rfl (.tmp 12) (.tmp 13) 45 5 (.int .u8 0) 1 rfl Tryd.underlying45 info5 rfl (by decide) (by omega) v148 y147 x3_1 _ _ _ (fun k_ => some k_ ≠ (.slice Ao9 x3_1.length co9 : Value).ownBlock) (fun _ => False) rfl rfl ?aO ?aR (fun _ _ h => h) (fun _ h => h.elim) ?aF ?aB ?aS ?aL ?_; (case aR => repeat (first | exact (Kd.R_reads' HO_3.out).2.2 | (with_reducible refine Kd.C_alloc ?_ _) | (with_reducible refine Kd.C_drewN ?_ _) | (with_reducible refine Kd.C_drew ?_))); (case aB => exact bA); (case aF => exact (fun k_ hk => Kd.fresh' (Kd.R_lt (by (with_reducible repeat (first | apply Kd.R_alloc | apply Kd.R_drewN | apply Kd.R_drew)); exact HO_3.out)) k_ hk)); (case aO => exact (by (with_reducible repeat (first | apply Kd.R_alloc | apply Kd.R_drewN | apply Kd.R_drew)); exact Kd.R_mono HO149.out (fun _ hk => hk.2))); (case aS => exact (below_size bA)); (case aL => have := LMc5.out; omega); intro v151 w8 ho hb hg hat; rw [← Ny150.out] at ho; have HO152 := as_ (ho); replace HO_3 := as_ (Kd.R_after (ok := (fun _ => True)) (by (with_reducible repeat (first | apply Kd.R_alloc | apply Kd.R_drewN | apply Kd.R_drew)); exact HO_3.out) hg hat); replace HB := as_ (hb); clear HO149; clear ho hb hg hat))
   go_roundg k1
   case measure => have := HK1.out; omega
   case rel => exact ⟨(IntKind.u64.wrap (Int.tdiv x0_1 256)), (y150), (by first | rfl | (simp; done) | (simp [*]; done)), H', ⟨by have := HK1.out; omega⟩, ⟨by (with_reducible repeat (first | apply Kd.R_alloc | apply Kd.R_drewN | apply Kd.R_drew)); exact Kd.R_mono HO152.out (fun _ hk => trivial)⟩, ⟨by repeat (first | (with_reducible first | exact HB.out | apply below_alloc | apply pw_below_drewN | apply below_drew1) | exact HB.out)⟩⟩
/-! ### withyref01_Put: function 44 -/
def withyref01_Put.f (k : Nat) (a0 : Int) : Option (ByteArray) := if a0 ≤ 240 then (some (strOfNums (([(a0) % 256] : List Int)))) else (if a0 ≤ 2287 then (some (strOfNums (([(IntKind.u64.wrap (241 + (IntKind.u64.wrap (Int.tdiv (IntKind.u64.wrap (a0 - 240)) 256)))) % 256, (Int.tmod (IntKind.u64.wrap (a0 - 240)) 256) % 256] : List Int)))) else (if a0 ≤ 67823 then (some (strOfNums (([249, (IntKind.u64.wrap (Int.tdiv (IntKind.u64.wrap (a0 - 2288)) 256)) % 256, (Int.tmod (IntKind.u64.wrap (a0 - 2288)) 256) % 256] : List Int)))) else ((withyref01_digits.f k a0).bind fun t162 => ((some (([(wrap64 (247 + (t162.length : Int))) % 256] : List Int) : List Int)).bind fun y165 => (if (strOfNums y165).size + (strOfNums t162).size ≤ 9223372036854775807 then (some ((strOfNums y165) ++ (strOfNums t162))) else (none))))))
theorem withyref01_Put.mono : ∀ a0 k, LeO (withyref01_Put.f k a0) (withyref01_Put.f (k + 1) a0) := by
 intro a0 k
 unfold withyref01_Put.f
 repeat' first
   | (with_reducible exact withyref01_digits.mono _ _)
   | (with_reducible exact LeO.refl _)
   | (with_reducible exact LeO.none _)
   | (with_reducible refine LeO.ite ?_ ?_)
   | (with_reducible refine LeO.bind ?_ (fun _ => ?_))
   | exact withyref01_digits.mono _ _
   | exact LeO.none _
   | refine LeO.ite ?_ ?_
   | refine LeO.bind ?_ (fun _ => ?_)
set_option maxHeartbeats 8000000 in
set_option maxRecDepth 100000 in
theorem withyref01_Put.calls (k : Nat) (a0 : Int) (r : ByteArray) (w : World) (h : withyref01_Put.f k a0 = some r) :
  Calls Tryd.prog 44 #[.int .u64 a0] w fun e w' => e = .returned (.string r) ∧ Below w.heap.size w w' := by
 have HB := as_ (Below.refl w.heap.size w)
 have H : (if a0 ≤ 240 then (some (strOfNums (([(a0) % 256] : List Int)))) else (if a0 ≤ 2287 then (some (strOfNums (([(IntKind.u64.wrap (241 + (IntKind.u64.wrap (Int.tdiv (IntKind.u64.wrap (a0 - 240)) 256)))) % 256, (Int.tmod (IntKind.u64.wrap (a0 - 240)) 256) % 256] : List Int)))) else (if a0 ≤ 67823 then (some (strOfNums (([249, (IntKind.u64.wrap (Int.tdiv (IntKind.u64.wrap (a0 - 2288)) 256)) % 256, (Int.tmod (IntKind.u64.wrap (a0 - 2288)) 256) % 256] : List Int)))) else ((withyref01_digits.f k a0).bind fun t162 => ((some (([(wrap64 (247 + (t162.length : Int))) % 256] : List Int) : List Int)).bind fun y165 => (if (strOfNums y165).size + (strOfNums t162).size ≤ 9223372036854775807 then (some ((strOfNums y165) ++ (strOfNums t162))) else (none))))))) = some r := h
 clear h
 by_cases c2 : a0 ≤ 240
 ·rw [if_pos c2] at H
  have c2b0 : decide (a0 ≤ 240) = true := decide_eq_true c2
  clear c2
  obtain ⟨y153, hy153⟩ : ∃ y_ : List Int, y_ = (([(a0) % 256] : List Int)) := ⟨_, rfl⟩
  replace H : (some (strOfNums y153)) = some r := by first | (rw [hy153]; with_reducible exact H) | (have H2_ := (Option.bind_some _ _).symm.trans H; rw [hy153]; with_reducible exact H2_) | (have H2_ := (Option.bind_some _ _).symm.trans H; with_reducible exact H2_) | with_reducible exact H | (rw [hy153]; exact H) | exact H
  have Ny153 := Aside0.mk hy153
  clear hy153
  obtain rfl := Option.some.inj H
  go_enter Tryd.func44, Tryd.ntmps44
  go_wp2_with (first | ((with_reducible refine gate_dst (N := 8) rfl ?_); refine Kd.R_lit (Kd.int .u8) _ 5 ?hg (N := 8) ?hd (xs := ([(a0) % 256] : List Int)) (inner := [.int .u8 ((a0) % 256)]) (ok := fun _ => True) (okp := fun _ => True) ?hr ?hp (fun _ hk => hk) trivial (Below.refl _ _) (Nat.le_refl _) (by simp) ?_; (case hd => rfl); (case hg => rfl); (case hr => first | (go_simp; done) | (go_simp; rfl)); (case hp => exact (Reps.one (show Kd.M (Kd.int .u8) _ _ _ ((a0) % 256) [.int .u8 ((a0) % 256)] from rfl) (Reps.none _ _))); intro v154 w3 ho4 hb hg_ hnew_; clear hg_ hnew_; (first | rw [← Ny153.out] at ho4 | (simp only [Int.reduceToNat] at ho4; rw [← Ny153.out] at ho4)); have HO155 := as_ (Kd.R_lower ho4 (below_size bA)); replace HB := as_ (below_step bA hb); clear hb ho4; have hcv5 := own_string (P := Tryd.prog) Tryd.underlying45 Tryd.underlying5 Tryd.underlying9 (Kd.own_of_R HO155.out)))
  go_ret
  exact ⟨eW, by repeat (first | (with_reducible first | exact HB.out | apply below_alloc | apply pw_below_drewN | apply below_drew1) | exact HB.out)⟩
 rw [if_neg c2] at H
 have c2b0 : decide (a0 ≤ 240) = false := decide_eq_false c2
 clear c2
 by_cases c6 : a0 ≤ 2287
 ·rw [if_pos c6] at H
  have c6b0 : decide (a0 ≤ 2287) = true := decide_eq_true c6
  clear c6
  obtain ⟨y156, hy156⟩ : ∃ y_ : List Int, y_ = (([(IntKind.u64.wrap (241 + (IntKind.u64.wrap (Int.tdiv (IntKind.u64.wrap (a0 - 240)) 256)))) % 256, (Int.tmod (IntKind.u64.wrap (a0 - 240)) 256) % 256] : List Int)) := ⟨_, rfl⟩
  replace H : (some (strOfNums y156)) = some r := by first | (rw [hy156]; with_reducible exact H) | (have H2_ := (Option.bind_some _ _).symm.trans H; rw [hy156]; with_reducible exact H2_) | (have H2_ := (Option.bind_some _ _).symm.trans H; with_reducible exact H2_) | with_reducible exact H | (rw [hy156]; exact H) | exact H
  have Ny156 := Aside0.mk hy156
  clear hy156
  obtain rfl := Option.some.inj H
  go_enter Tryd.func44, Tryd.ntmps44
  go_wp2_with (first | ((with_reducible refine gate_dst (N := 21) rfl ?_); refine Kd.R_lit (Kd.int .u8) _ 5 ?hg (N := 21) ?hd (xs := ([(IntKind.u64.wrap (241 + (IntKind.u64.wrap (Int.tdiv (IntKind.u64.wrap (a0 - 240)) 256)))) % 256, (Int.tmod (IntKind.u64.wrap (a0 - 240)) 256) % 256] : List Int)) (inner := [.int .u8 ((IntKind.u64.wrap (241 + (IntKind.u64.wrap (Int.tdiv (IntKind.u64.wrap (a0 - 240)) 256)))) % 256), .int .u8 ((Int.tmod (IntKind.u64.wrap (a0 - 240)) 256) % 256)]) (ok := fun _ => True) (okp := fun _ => True) ?hr ?hp (fun _ hk => hk) trivial (Below.refl _ _) (Nat.le_refl _) (by simp) ?_; (case hd => rfl); (case hg => rfl); (case hr => first | (go_simp; done) | (go_simp; rfl)); (case hp => exact (Reps.one (show Kd.M (Kd.int .u8) _ _ _ ((IntKind.u64.wrap (241 + (IntKind.u64.wrap (Int.tdiv (IntKind.u64.wrap (a0 - 240)) 256)))) % 256) [.int .u8 ((IntKind.u64.wrap (241 + (IntKind.u64.wrap (Int.tdiv (IntKind.u64.wrap (a0 - 240)) 256)))) % 256)] from rfl) (Reps.one (show Kd.M (Kd.int .u8) _ _ _ ((Int.tmod (IntKind.u64.wrap (a0 - 240)) 256) % 256) [.int .u8 ((Int.tmod (IntKind.u64.wrap (a0 - 240)) 256) % 256)] from rfl) (Reps.none _ _)))); intro v157 w7 ho8 hb hg_ hnew_; clear hg_ hnew_; (first | rw [← Ny156.out] at ho8 | (simp only [Int.reduceToNat] at ho8; rw [← Ny156.out] at ho8)); have HO158 := as_ (Kd.R_lower ho8 (below_size bA)); replace HB := as_ (below_step bA hb); clear hb ho8; have hcv9 := own_string (P := Tryd.prog) Tryd.underlying45 Tryd.underlying5 Tryd.underlying9 (Kd.own_of_R HO158.out)))
  go_ret
  exact ⟨eW, by repeat (first | (with_reducible first | exact HB.out | apply below_alloc | apply pw_below_drewN | apply below_drew1) | exact HB.out)⟩
 rw [if_neg c6] at H
 have c6b0 : decide (a0 ≤ 2287) = false := decide_eq_false c6
 clear c6
 by_cases c10 : a0 ≤ 67823
 ·rw [if_pos c10] at H
  have c10b0 : decide (a0 ≤ 67823) = true := decide_eq_true c10
  clear c10
  obtain ⟨y159, hy159⟩ : ∃ y_ : List Int, y_ = (([249, (IntKind.u64.wrap (Int.tdiv (IntKind.u64.wrap (a0 - 2288)) 256)) % 256, (Int.tmod (IntKind.u64.wrap (a0 - 2288)) 256) % 256] : List Int)) := ⟨_, rfl⟩
  replace H : (some (strOfNums y159)) = some r := by first | (rw [hy159]; with_reducible exact H) | (have H2_ := (Option.bind_some _ _).symm.trans H; rw [hy159]; with_reducible exact H2_) | (have H2_ := (Option.bind_some _ _).symm.trans H; with_reducible exact H2_) | with_reducible exact H | (rw [hy159]; exact H) | exact H
  have Ny159 := Aside0.mk hy159
  clear hy159
  obtain rfl := Option.some.inj H
  go_enter Tryd.func44, Tryd.ntmps44
  go_wp2_with (first | ((with_reducible refine gate_dst (N := 33) rfl ?_); refine Kd.R_lit (Kd.int .u8) _ 5 ?hg (N := 33) ?hd (xs := ([249, (IntKind.u64.wrap (Int.tdiv (IntKind.u64.wrap (a0 - 2288)) 256)) % 256, (Int.tmod (IntKind.u64.wrap (a0 - 2288)) 256) % 256] : List Int)) (inner := [.int .u8 249, .int .u8 ((IntKind.u64.wrap (Int.tdiv (IntKind.u64.wrap (a0 - 2288)) 256)) % 256), .int .u8 ((Int.tmod (IntKind.u64.wrap (a0 - 2288)) 256) % 256)]) (ok := fun _ => True) (okp := fun _ => True) ?hr ?hp (fun _ hk => hk) trivial (Below.refl _ _) (Nat.le_refl _) (by simp) ?_; (case hd => rfl); (case hg => rfl); (case hr => first | (go_simp; done) | (go_simp; rfl)); (case hp => exact (Reps.one (show Kd.M (Kd.int .u8) _ _ _ 249 [.int .u8 249] from rfl) (Reps.one (show Kd.M (Kd.int .u8) _ _ _ ((IntKind.u64.wrap (Int.tdiv (IntKind.u64.wrap (a0 - 2288)) 256)) % 256) [.int .u8 ((IntKind.u64.wrap (Int.tdiv (IntKind.u64.wrap (a0 - 2288)) 256)) % 256)] from rfl) (Reps.one (show Kd.M (Kd.int .u8) _ _ _ ((Int.tmod (IntKind.u64.wrap (a0 - 2288)) 256) % 256) [.int .u8 ((Int.tmod (IntKind.u64.wrap (a0 - 2288)) 256) % 256)] from rfl) (Reps.none _ _))))); intro v160 w11 ho12 hb hg_ hnew_; clear hg_ hnew_; (first | rw [← Ny159.out] at ho12 | (simp only [Int.reduceToNat] at ho12; rw [← Ny159.out] at ho12)); have HO161 := as_ (Kd.R_lower ho12 (below_size bA)); replace HB := as_ (below_step bA hb); clear hb ho12; have hcv13 := own_string (P := Tryd.prog) Tryd.underlying45 Tryd.underlying5 Tryd.underlying9 (Kd.own_of_R HO161.out)))
  go_ret
  exact ⟨eW, by repeat (first | (with_reducible first | exact HB.out | apply below_alloc | apply pw_below_drewN | apply below_drew1) | exact HB.out)⟩
 rw [if_neg c10] at H
 have c10b0 : decide (a0 ≤ 67823) = false := decide_eq_false c10
 clear c10
 replace H := bM H
 obtain ⟨t162, A140, H⟩ := H
 replace H : ((some (([(wrap64 (247 + (t162.length : Int))) % 256] : List Int) : List Int)).bind fun y165 => (if (strOfNums y165).size + (strOfNums t162).size ≤ 9223372036854775807 then (some ((strOfNums y165) ++ (strOfNums t162))) else (none))) = some r := H
 have A14 := Aside0.mk A140
 clear A140
 obtain ⟨y165, hy165⟩ : ∃ y_ : List Int, y_ = (([(wrap64 (247 + (t162.length : Int))) % 256] : List Int)) := ⟨_, rfl⟩
 replace H : (if (strOfNums y165).size + (strOfNums t162).size ≤ 9223372036854775807 then (some ((strOfNums y165) ++ (strOfNums t162))) else (none)) = some r := by first | (rw [hy165]; with_reducible exact H) | (have H2_ := (Option.bind_some _ _).symm.trans H; rw [hy165]; with_reducible exact H2_) | (have H2_ := (Option.bind_some _ _).symm.trans H; with_reducible exact H2_) | with_reducible exact H | (rw [hy165]; exact H) | exact H
 have Ny165 := Aside0.mk hy165
 clear hy165
 by_cases c15 : (strOfNums y165).size + (strOfNums t162).size ≤ 9223372036854775807
 rotate_left
 ·rw [if_neg c15] at H
  exact absurd H (by simp)
 
 rw [if_pos c15] at H
 have c15b0 := eq_true c15
 have c15b1 : decide ((strOfNums y165).size + (strOfNums t162).size ≤ 9223372036854775807) = true := decide_eq_true c15
 try have c15b2 : (9223372036854775807 < (strOfNums y165).size + (strOfNums t162).size) = False := eq_false (Nat.not_lt.2 c15)
 obtain ⟨js16, hjs16⟩ : ∃ j_ : ByteArray, ((strOfNums y165) ++ (strOfNums t162)) = j_ := ⟨_, rfl⟩
 replace H : (some js16) = some r := by first | (rw [hjs16] at H; exact H) | (simp only [hjs16] at H ⊢; exact H)
 (try rw [hjs16] at A14)
 obtain rfl := Option.some.inj H
 go_enter Tryd.func44, Tryd.ntmps44
 go_wp2_with (first | ((with_reducible refine gate_callee (f := 55) rfl ?_); refine goesL_ (some 36) rfl rfl Tryd.func55 (by kernel_rfl) rfl #[.int .u64 a0] rfl aO ?_; (with_reducible refine (withyref01_digits.calls k a0 t162 _ A14.out).mono ?_); rintro e w17 ⟨v163, rfl, ho0, hb⟩; refine ⟨_, rfl, ?_⟩; have HO164 := as_ (Kd.R_lower ho0 (below_size bA)); replace HB := as_ (below_step bA hb); (try clear hb); (try clear hb2); (try clear hk); (try clear hi); (try clear ho0); obtain ⟨Ao18, co18, eo18⟩ := Kd.R_slice HO164.out; subst eo18) | ((with_reducible refine gate_dst (N := 41) rfl ?_); refine Kd.R_lit (Kd.int .u8) _ 5 ?hg (N := 41) ?hd (xs := ([(wrap64 (247 + (t162.length : Int))) % 256] : List Int)) (inner := [.int .u8 ((wrap64 (247 + (t162.length : Int))) % 256)]) (ok := fun _ => True) (okp := fun _ => True) ?hr ?hp (fun _ hk => hk) trivial (Below.refl _ _) (Nat.le_refl _) (by simp) ?_; (case hd => rfl); (case hg => rfl); (case hr => first | (go_simp; done) | (go_simp; rfl)); (case hp => exact (Reps.one (show Kd.M (Kd.int .u8) _ _ _ ((wrap64 (247 + (t162.length : Int))) % 256) [.int .u8 ((wrap64 (247 + (t162.length : Int))) % 256)] from rfl) (Reps.none _ _))); intro v166 w19 ho20 hb hg_ hnew_; clear hg_ hnew_; (first | rw [← Ny165.out] at ho20 | (simp only [Int.reduceToNat] at ho20; rw [← Ny165.out] at ho20)); have HO167 := as_ (Kd.R_lower (Kd.R_new' ho20 (Kd.R_lt (by (with_reducible repeat (first | apply Kd.R_alloc | apply Kd.R_drewN | apply Kd.R_drew)); exact HO164.out))) (below_size bA)); replace HO164 := as_ (Kd.R_elder' (by (with_reducible repeat (first | apply Kd.R_alloc | apply Kd.R_drewN | apply Kd.R_drew)); exact HO164.out) (Kd.R_base ho20) hb); replace HB := as_ (below_step bA hb); clear hb ho20; have hcv21 := own_string (P := Tryd.prog) Tryd.underlying45 Tryd.underlying5 Tryd.underlying9 (Kd.own_of_R HO167.out); have hcv22 := own_string (P := Tryd.prog) Tryd.underlying45 Tryd.underlying5 Tryd.underlying9 (Kd.own_of_R HO164.out)))
 go_ret
 exact ⟨by first | rfl | (simp [errW_none, errW_some] <;> rfl) | (simp only [← hjs16]; first | rfl | (simp [errW_none, errW_some] <;> rfl)) | (simp [*, errW_none, errW_some] <;> rfl), by repeat (first | (with_reducible first | exact HB.out | apply below_alloc | apply pw_below_drewN | apply below_drew1) | exact HB.out)⟩
end Go.Proofs.YthaicofleloplaaDoor.P
