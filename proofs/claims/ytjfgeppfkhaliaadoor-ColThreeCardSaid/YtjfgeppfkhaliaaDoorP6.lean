/- What is proved here: for functions of the Go text, a Lean function each, and that the call comes to just what it answers. Conditions: as each contract names them. Written by wip/tools/myprint.py, a driver of the print of the kit. -/
import Derived.Test.YtjfgeppfkhaliaaDoorP0
import Derived.Test.YtjfgeppfkhaliaaDoorP5
import Derived.Test.YtjfgeppfkhaliaaDoorWAbbr
namespace Go.Proofs.YtjfgeppfkhaliaaDoor.P
open Go.RowKit Go.Proofs.YtjfgeppfkhaliaaDoorW.PrintWords Go.Proofs.YtjfgeppfkhaliaaDoorW.PrintLast Go.Proofs.YtjfgeppfkhaliaaDoorW.PrintMore Go.Proofs.YtjfgeppfkhaliaaDoorW.Abbr
-- PACKED
attribute [local go_sem] max2_int min2_int max_two min_two max_three min_three max_four min_four Go.Proofs.YtjfgeppfkhaliaaDoorLaws.str_leq Go.Proofs.YtjfgeppfkhaliaaDoorLaws.str_gtr Go.Proofs.YtjfgeppfkhaliaaDoorLaws.str_geq Go.Proofs.YtjfgeppfkhaliaaDoorLaws.max2_str Go.Proofs.YtjfgeppfkhaliaaDoorLaws.min2_str   -- for this text's walks alone
set_option linter.unusedVariables false
set_option linter.unusedSimpArgs false

/-! ### withyref01_Put: function 29 -/
def withyref01_Put.f (k : Nat) (a0 : Int) : Option (ByteArray) := if a0 ≤ 240 then (some (strOfNums (([(a0) % 256] : List Int)))) else (if a0 ≤ 2287 then (some (strOfNums (([(IntKind.u64.wrap (241 + (IntKind.u64.wrap (Int.tdiv (IntKind.u64.wrap (a0 - 240)) 256)))) % 256, (Int.tmod (IntKind.u64.wrap (a0 - 240)) 256) % 256] : List Int)))) else (if a0 ≤ 67823 then (some (strOfNums (([249, (IntKind.u64.wrap (Int.tdiv (IntKind.u64.wrap (a0 - 2288)) 256)) % 256, (Int.tmod (IntKind.u64.wrap (a0 - 2288)) 256) % 256] : List Int)))) else ((withyref01_digits.f k a0).bind fun t144 => ((some (([(wrap64 (247 + (t144.length : Int))) % 256] : List Int) : List Int)).bind fun y147 => (if (strOfNums y147).size + (strOfNums t144).size ≤ 9223372036854775807 then (some ((strOfNums y147) ++ (strOfNums t144))) else (none))))))
theorem withyref01_Put.mono : ∀ a0 k, LeO (withyref01_Put.f k a0) (withyref01_Put.f (k + 1) a0) := by
 intro a0 k
 unfold withyref01_Put.f
 repeat' first
   | (with_reducible exact withyref01_digits.mono _ _)
   | (with_reducible exact LeO.refl _)
   | (with_reducible exact LeO.none _)
   | (with_reducible refine LeO.ite ?_ ?_)
   | (with_reducible refine LeO.bind ?_ (fun _ => ?_))
   | exact withyref01_digits.mono _ _
   | exact LeO.none _
   | refine LeO.ite ?_ ?_
   | refine LeO.bind ?_ (fun _ => ?_)
set_option maxHeartbeats 8000000 in
set_option maxRecDepth 100000 in
theorem withyref01_Put.calls (k : Nat) (a0 : Int) (r : ByteArray) (w : World) (h : withyref01_Put.f k a0 = some r) :
  Calls Tryd.prog 29 #[.int .u64 a0] w fun e w' => e = .returned (.string r) ∧ Below w.heap.size w w' := by
 have HB := as_ (Below.refl w.heap.size w)
 have H : (if a0 ≤ 240 then (some (strOfNums (([(a0) % 256] : List Int)))) else (if a0 ≤ 2287 then (some (strOfNums (([(IntKind.u64.wrap (241 + (IntKind.u64.wrap (Int.tdiv (IntKind.u64.wrap (a0 - 240)) 256)))) % 256, (Int.tmod (IntKind.u64.wrap (a0 - 240)) 256) % 256] : List Int)))) else (if a0 ≤ 67823 then (some (strOfNums (([249, (IntKind.u64.wrap (Int.tdiv (IntKind.u64.wrap (a0 - 2288)) 256)) % 256, (Int.tmod (IntKind.u64.wrap (a0 - 2288)) 256) % 256] : List Int)))) else ((withyref01_digits.f k a0).bind fun t144 => ((some (([(wrap64 (247 + (t144.length : Int))) % 256] : List Int) : List Int)).bind fun y147 => (if (strOfNums y147).size + (strOfNums t144).size ≤ 9223372036854775807 then (some ((strOfNums y147) ++ (strOfNums t144))) else (none))))))) = some r := h
 clear h
 by_cases c2 : a0 ≤ 240
 ·rw [if_pos c2] at H
  have c2b0 : decide (a0 ≤ 240) = true := decide_eq_true c2
  clear c2
  obtain ⟨y135, hy135⟩ : ∃ y_ : List Int, y_ = (([(a0) % 256] : List Int)) := ⟨_, rfl⟩
  replace H : (some (strOfNums y135)) = some r := by first | (rw [hy135]; with_reducible exact H) | (have H2_ := (Option.bind_some _ _).symm.trans H; rw [hy135]; with_reducible exact H2_) | (have H2_ := (Option.bind_some _ _).symm.trans H; with_reducible exact H2_) | with_reducible exact H | (rw [hy135]; exact H) | exact H
  have Ny135 := Aside0.mk hy135
  clear hy135
  obtain rfl := Option.some.inj H
  go_enter Tryd.func29, Tryd.ntmps29
  go_wp2_with (first | ((with_reducible refine gate_dst (N := 8) rfl ?_); refine Kd.R_lit (Kd.int .u8) _ 5 ?hg (N := 8) ?hd (xs := ([(a0) % 256] : List Int)) (inner := [.int .u8 ((a0) % 256)]) (ok := fun _ => True) (okp := fun _ => True) ?hr ?hp (fun _ hk => hk) trivial (Below.refl _ _) (Nat.le_refl _) (by simp) ?_; (case hd => rfl); (case hg => rfl); (case hr => first | (go_simp; done) | (go_simp; rfl)); (case hp => exact (Reps.one (show Kd.M (Kd.int .u8) _ _ _ ((a0) % 256) [.int .u8 ((a0) % 256)] from rfl) (Reps.none _ _))); intro v136 w3 ho4 hb hg_ hnew_; clear hg_ hnew_; (first | rw [← Ny135.out] at ho4 | (simp only [Int.reduceToNat] at ho4; rw [← Ny135.out] at ho4)); have HO137 := as_ (Kd.R_lower ho4 (below_size bA)); replace HB := as_ (below_step bA hb); clear hb ho4; have hcv5 := own_string (P := Tryd.prog) Tryd.underlying49 Tryd.underlying5 Tryd.underlying9 (Kd.own_of_R HO137.out)))
  go_ret
  exact ⟨eW, by repeat (first | (with_reducible first | exact HB.out | apply below_alloc | apply pw_below_drewN | apply below_drew1) | exact HB.out)⟩
 rw [if_neg c2] at H
 have c2b0 : decide (a0 ≤ 240) = false := decide_eq_false c2
 clear c2
 by_cases c6 : a0 ≤ 2287
 ·rw [if_pos c6] at H
  have c6b0 : decide (a0 ≤ 2287) = true := decide_eq_true c6
  clear c6
  obtain ⟨y138, hy138⟩ : ∃ y_ : List Int, y_ = (([(IntKind.u64.wrap (241 + (IntKind.u64.wrap (Int.tdiv (IntKind.u64.wrap (a0 - 240)) 256)))) % 256, (Int.tmod (IntKind.u64.wrap (a0 - 240)) 256) % 256] : List Int)) := ⟨_, rfl⟩
  replace H : (some (strOfNums y138)) = some r := by first | (rw [hy138]; with_reducible exact H) | (have H2_ := (Option.bind_some _ _).symm.trans H; rw [hy138]; with_reducible exact H2_) | (have H2_ := (Option.bind_some _ _).symm.trans H; with_reducible exact H2_) | with_reducible exact H | (rw [hy138]; exact H) | exact H
  have Ny138 := Aside0.mk hy138
  clear hy138
  obtain rfl := Option.some.inj H
  go_enter Tryd.func29, Tryd.ntmps29
  go_wp2_with (first | ((with_reducible refine gate_dst (N := 21) rfl ?_); refine Kd.R_lit (Kd.int .u8) _ 5 ?hg (N := 21) ?hd (xs := ([(IntKind.u64.wrap (241 + (IntKind.u64.wrap (Int.tdiv (IntKind.u64.wrap (a0 - 240)) 256)))) % 256, (Int.tmod (IntKind.u64.wrap (a0 - 240)) 256) % 256] : List Int)) (inner := [.int .u8 ((IntKind.u64.wrap (241 + (IntKind.u64.wrap (Int.tdiv (IntKind.u64.wrap (a0 - 240)) 256)))) % 256), .int .u8 ((Int.tmod (IntKind.u64.wrap (a0 - 240)) 256) % 256)]) (ok := fun _ => True) (okp := fun _ => True) ?hr ?hp (fun _ hk => hk) trivial (Below.refl _ _) (Nat.le_refl _) (by simp) ?_; (case hd => rfl); (case hg => rfl); (case hr => first | (go_simp; done) | (go_simp; rfl)); (case hp => exact (Reps.one (show Kd.M (Kd.int .u8) _ _ _ ((IntKind.u64.wrap (241 + (IntKind.u64.wrap (Int.tdiv (IntKind.u64.wrap (a0 - 240)) 256)))) % 256) [.int .u8 ((IntKind.u64.wrap (241 + (IntKind.u64.wrap (Int.tdiv (IntKind.u64.wrap (a0 - 240)) 256)))) % 256)] from rfl) (Reps.one (show Kd.M (Kd.int .u8) _ _ _ ((Int.tmod (IntKind.u64.wrap (a0 - 240)) 256) % 256) [.int .u8 ((Int.tmod (IntKind.u64.wrap (a0 - 240)) 256) % 256)] from rfl) (Reps.none _ _)))); intro v139 w7 ho8 hb hg_ hnew_; clear hg_ hnew_; (first | rw [← Ny138.out] at ho8 | (simp only [Int.reduceToNat] at ho8; rw [← Ny138.out] at ho8)); have HO140 := as_ (Kd.R_lower ho8 (below_size bA)); replace HB := as_ (below_step bA hb); clear hb ho8; have hcv9 := own_string (P := Tryd.prog) Tryd.underlying49 Tryd.underlying5 Tryd.underlying9 (Kd.own_of_R HO140.out)))
  go_ret
  exact ⟨eW, by repeat (first | (with_reducible first | exact HB.out | apply below_alloc | apply pw_below_drewN | apply below_drew1) | exact HB.out)⟩
 rw [if_neg c6] at H
 have c6b0 : decide (a0 ≤ 2287) = false := decide_eq_false c6
 clear c6
 by_cases c10 : a0 ≤ 67823
 ·rw [if_pos c10] at H
  have c10b0 : decide (a0 ≤ 67823) = true := decide_eq_true c10
  clear c10
  obtain ⟨y141, hy141⟩ : ∃ y_ : List Int, y_ = (([249, (IntKind.u64.wrap (Int.tdiv (IntKind.u64.wrap (a0 - 2288)) 256)) % 256, (Int.tmod (IntKind.u64.wrap (a0 - 2288)) 256) % 256] : List Int)) := ⟨_, rfl⟩
  replace H : (some (strOfNums y141)) = some r := by first | (rw [hy141]; with_reducible exact H) | (have H2_ := (Option.bind_some _ _).symm.trans H; rw [hy141]; with_reducible exact H2_) | (have H2_ := (Option.bind_some _ _).symm.trans H; with_reducible exact H2_) | with_reducible exact H | (rw [hy141]; exact H) | exact H
  have Ny141 := Aside0.mk hy141
  clear hy141
  obtain rfl := Option.some.inj H
  go_enter Tryd.func29, Tryd.ntmps29
  go_wp2_with (first | ((with_reducible refine gate_dst (N := 33) rfl ?_); refine Kd.R_lit (Kd.int .u8) _ 5 ?hg (N := 33) ?hd (xs := ([249, (IntKind.u64.wrap (Int.tdiv (IntKind.u64.wrap (a0 - 2288)) 256)) % 256, (Int.tmod (IntKind.u64.wrap (a0 - 2288)) 256) % 256] : List Int)) (inner := [.int .u8 249, .int .u8 ((IntKind.u64.wrap (Int.tdiv (IntKind.u64.wrap (a0 - 2288)) 256)) % 256), .int .u8 ((Int.tmod (IntKind.u64.wrap (a0 - 2288)) 256) % 256)]) (ok := fun _ => True) (okp := fun _ => True) ?hr ?hp (fun _ hk => hk) trivial (Below.refl _ _) (Nat.le_refl _) (by simp) ?_; (case hd => rfl); (case hg => rfl); (case hr => first | (go_simp; done) | (go_simp; rfl)); (case hp => exact (Reps.one (show Kd.M (Kd.int .u8) _ _ _ 249 [.int .u8 249] from rfl) (Reps.one (show Kd.M (Kd.int .u8) _ _ _ ((IntKind.u64.wrap (Int.tdiv (IntKind.u64.wrap (a0 - 2288)) 256)) % 256) [.int .u8 ((IntKind.u64.wrap (Int.tdiv (IntKind.u64.wrap (a0 - 2288)) 256)) % 256)] from rfl) (Reps.one (show Kd.M (Kd.int .u8) _ _ _ ((Int.tmod (IntKind.u64.wrap (a0 - 2288)) 256) % 256) [.int .u8 ((Int.tmod (IntKind.u64.wrap (a0 - 2288)) 256) % 256)] from rfl) (Reps.none _ _))))); intro v142 w11 ho12 hb hg_ hnew_; clear hg_ hnew_; (first | rw [← Ny141.out] at ho12 | (simp only [Int.reduceToNat] at ho12; rw [← Ny141.out] at ho12)); have HO143 := as_ (Kd.R_lower ho12 (below_size bA)); replace HB := as_ (below_step bA hb); clear hb ho12; have hcv13 := own_string (P := Tryd.prog) Tryd.underlying49 Tryd.underlying5 Tryd.underlying9 (Kd.own_of_R HO143.out)))
  go_ret
  exact ⟨eW, by repeat (first | (with_reducible first | exact HB.out | apply below_alloc | apply pw_below_drewN | apply below_drew1) | exact HB.out)⟩
 rw [if_neg c10] at H
 have c10b0 : decide (a0 ≤ 67823) = false := decide_eq_false c10
 clear c10
 replace H := bM H
 obtain ⟨t144, A140, H⟩ := H
 replace H : ((some (([(wrap64 (247 + (t144.length : Int))) % 256] : List Int) : List Int)).bind fun y147 => (if (strOfNums y147).size + (strOfNums t144).size ≤ 9223372036854775807 then (some ((strOfNums y147) ++ (strOfNums t144))) else (none))) = some r := H
 have A14 := Aside0.mk A140
 clear A140
 obtain ⟨y147, hy147⟩ : ∃ y_ : List Int, y_ = (([(wrap64 (247 + (t144.length : Int))) % 256] : List Int)) := ⟨_, rfl⟩
 replace H : (if (strOfNums y147).size + (strOfNums t144).size ≤ 9223372036854775807 then (some ((strOfNums y147) ++ (strOfNums t144))) else (none)) = some r := by first | (rw [hy147]; with_reducible exact H) | (have H2_ := (Option.bind_some _ _).symm.trans H; rw [hy147]; with_reducible exact H2_) | (have H2_ := (Option.bind_some _ _).symm.trans H; with_reducible exact H2_) | with_reducible exact H | (rw [hy147]; exact H) | exact H
 have Ny147 := Aside0.mk hy147
 clear hy147
 by_cases c15 : (strOfNums y147).size + (strOfNums t144).size ≤ 9223372036854775807
 rotate_left
 ·rw [if_neg c15] at H
  exact absurd H (by simp)
 
 rw [if_pos c15] at H
 have c15b0 := eq_true c15
 have c15b1 : decide ((strOfNums y147).size + (strOfNums t144).size ≤ 9223372036854775807) = true := decide_eq_true c15
 try have c15b2 : (9223372036854775807 < (strOfNums y147).size + (strOfNums t144).size) = False := eq_false (Nat.not_lt.2 c15)
 obtain ⟨js16, hjs16⟩ : ∃ j_ : ByteArray, ((strOfNums y147) ++ (strOfNums t144)) = j_ := ⟨_, rfl⟩
 replace H : (some js16) = some r := by first | (rw [hjs16] at H; exact H) | (simp only [hjs16] at H ⊢; exact H)
 (try rw [hjs16] at A14)
 obtain rfl := Option.some.inj H
 go_enter Tryd.func29, Tryd.ntmps29
 go_wp2_with (first | ((with_reducible refine gate_callee (f := 43) rfl ?_); refine goesL_ (some 36) rfl rfl Tryd.func43 (by kernel_rfl) rfl #[.int .u64 a0] rfl aO ?_; (with_reducible refine (withyref01_digits.calls k a0 t144 _ A14.out).mono ?_); rintro e w17 ⟨v145, rfl, ho0, hb⟩; refine ⟨_, rfl, ?_⟩; have HO146 := as_ (Kd.R_lower ho0 (below_size bA)); replace HB := as_ (below_step bA hb); (try clear hb); (try clear hb2); (try clear hk); (try clear hi); (try clear ho0); obtain ⟨Ao18, co18, eo18⟩ := Kd.R_slice HO146.out; subst eo18) | ((with_reducible refine gate_dst (N := 41) rfl ?_); refine Kd.R_lit (Kd.int .u8) _ 5 ?hg (N := 41) ?hd (xs := ([(wrap64 (247 + (t144.length : Int))) % 256] : List Int)) (inner := [.int .u8 ((wrap64 (247 + (t144.length : Int))) % 256)]) (ok := fun _ => True) (okp := fun _ => True) ?hr ?hp (fun _ hk => hk) trivial (Below.refl _ _) (Nat.le_refl _) (by simp) ?_; (case hd => rfl); (case hg => rfl); (case hr => first | (go_simp; done) | (go_simp; rfl)); (case hp => exact (Reps.one (show Kd.M (Kd.int .u8) _ _ _ ((wrap64 (247 + (t144.length : Int))) % 256) [.int .u8 ((wrap64 (247 + (t144.length : Int))) % 256)] from rfl) (Reps.none _ _))); intro v148 w19 ho20 hb hg_ hnew_; clear hg_ hnew_; (first | rw [← Ny147.out] at ho20 | (simp only [Int.reduceToNat] at ho20; rw [← Ny147.out] at ho20)); have HO149 := as_ (Kd.R_lower (Kd.R_new' ho20 (Kd.R_lt (by (with_reducible repeat (first | apply Kd.R_alloc | apply Kd.R_drewN | apply Kd.R_drew)); exact HO146.out))) (below_size bA)); replace HO146 := as_ (Kd.R_elder' (by (with_reducible repeat (first | apply Kd.R_alloc | apply Kd.R_drewN | apply Kd.R_drew)); exact HO146.out) (Kd.R_base ho20) hb); replace HB := as_ (below_step bA hb); clear hb ho20; have hcv21 := own_string (P := Tryd.prog) Tryd.underlying49 Tryd.underlying5 Tryd.underlying9 (Kd.own_of_R HO149.out); have hcv22 := own_string (P := Tryd.prog) Tryd.underlying49 Tryd.underlying5 Tryd.underlying9 (Kd.own_of_R HO146.out)))
 go_ret
 exact ⟨by first | rfl | (simp [errW_none, errW_some] <;> rfl) | (simp only [← hjs16]; first | rfl | (simp [errW_none, errW_some] <;> rfl)) | (simp [*, errW_none, errW_some] <;> rfl), by repeat (first | (with_reducible first | exact HB.out | apply below_alloc | apply pw_below_drewN | apply below_drew1) | exact HB.out)⟩
/-! ### withyref03_Put: function 11 -/
mutual
def withyref03_Put.l0 : Nat → Int → ByteArray → Int → Option (ByteArray × Int)
 | 0, _, _, _ => none
 | k + 1, x4, x5, x6 => if x6 < 8 then ((some (([(Int.tmod x4 256) % 256] : List Int) : List Int)).bind fun y155 => (if (strOfNums y155).size + x5.size ≤ 9223372036854775807 then (withyref03_Put.l0 k (IntKind.u64.wrap (Int.tdiv x4 256)) ((strOfNums y155) ++ x5) (wrap64 (x6 + 1))) else (none))) else (if 1 + x5.size ≤ 9223372036854775807 then (some ((⟨#[48]⟩ : ByteArray) ++ x5, 0)) else (none))
def withyref03_Put.l1 : Nat → List Int → Int → Int → Int → Int → ByteArray → Option (ByteArray × Int)
 | 0, _, _, _, _, _, _ => none
 | k + 1, x7, x8, x151000, x151001, x151002, x151003 => if x8 < (x151003.size : Int) then (if 0 ≤ x8 then (if x7.length < 140737488355328 then ((some (x7 ++ [bt x151003 x8] : List Int)).bind fun y162 => (if (bt x151003 x8) = 0 then (if y162.length < 140737488355328 then (withyref03_Put.l1 k (y162 ++ [255]) (wrap64 (x8 + 1)) x151000 x151001 x151002 x151003) else (none)) else (withyref03_Put.l1 k y162 (wrap64 (x8 + 1)) x151000 x151001 x151002 x151003))) else (none)) else (none)) else (if x7.length < 140737488355328 then ((some (x7 ++ [0] : List Int)).bind fun y168 => (if y168.length < 140737488355328 then (some (strOfNums (y168 ++ [1]), 0)) else (none))) else (none))
end
def withyref03_Put.f (k : Nat) (a0_0 : Int) (a0_1 : Int) (a0_2 : Int) (a0_3 : ByteArray) : Option (ByteArray × Int) := (withyref03_Right.f a0_0 a0_1 a0_2 a0_3).bind fun t151 => (if t151 = true then (if a0_0 = 0 then (some ((⟨#[16]⟩ : ByteArray), 0)) else (if a0_0 = 1 then (some (strOfNums (([(IntKind.u64.wrap (32 + a0_2)) % 256] : List Int)), 0)) else (if a0_0 = 2 then (withyref03_Put.l0 k (IntKind.u64.wrap ((IntKind.u64.wrap (a0_1)) + 9223372036854775808)) (⟨#[]⟩ : ByteArray) 0) else (if a0_0 = 3 then ((withyref01_Put.f k a0_2).bind fun t158 => (if 1 + t158.size ≤ 9223372036854775807 then (some ((⟨#[64]⟩ : ByteArray) ++ t158, 0)) else (none))) else (withyref03_Put.l1 k (([80] : List Int)) 0 a0_0 a0_1 a0_2 a0_3))))) else (some ((⟨#[]⟩ : ByteArray), 3)))
theorem withyref03_Put.mono_l : ∀ k, (∀ y0 y1 y2, LeO (withyref03_Put.l0 k y0 y1 y2) (withyref03_Put.l0 (k + 1) y0 y1 y2)) ∧ (∀ y0 y1 y2 y3 y4 y5, LeO (withyref03_Put.l1 k y0 y1 y2 y3 y4 y5) (withyref03_Put.l1 (k + 1) y0 y1 y2 y3 y4 y5))
 | 0 => ⟨fun _ _ _ r h => by simp [withyref03_Put.l0] at h, fun _ _ _ _ _ _ r h => by simp [withyref03_Put.l1] at h⟩
 | k + 1 => by
  obtain ⟨ih0, ih1⟩ := withyref03_Put.mono_l k
  refine ⟨?_, ?_⟩
  ·intro y0 y1 y2
   unfold withyref03_Put.l0
   repeat' first
   | (with_reducible exact ih0 _ _ _)
   | (with_reducible exact ih1 _ _ _ _ _ _)
   | (with_reducible exact withyref01_Put.mono _ _)
   | (with_reducible exact LeO.refl _)
   | (with_reducible exact LeO.none _)
   | (with_reducible refine LeO.ite ?_ ?_)
   | (with_reducible refine LeO.bind ?_ (fun _ => ?_))
   | exact ih0 _ _ _
   | exact ih1 _ _ _ _ _ _
   | exact withyref01_Put.mono _ _
   | exact LeO.none _
   | refine LeO.ite ?_ ?_
   | refine LeO.bind ?_ (fun _ => ?_)
  ·intro y0 y1 y2 y3 y4 y5
   unfold withyref03_Put.l1
   repeat' first
   | (with_reducible exact ih0 _ _ _)
   | (with_reducible exact ih1 _ _ _ _ _ _)
   | (with_reducible exact withyref01_Put.mono _ _)
   | (with_reducible exact LeO.refl _)
   | (with_reducible exact LeO.none _)
   | (with_reducible refine LeO.ite ?_ ?_)
   | (with_reducible refine LeO.bind ?_ (fun _ => ?_))
   | exact ih0 _ _ _
   | exact ih1 _ _ _ _ _ _
   | exact withyref01_Put.mono _ _
   | exact LeO.none _
   | refine LeO.ite ?_ ?_
   | refine LeO.bind ?_ (fun _ => ?_)
theorem withyref03_Put.mono : ∀ a0 a1 a2 a3 k, LeO (withyref03_Put.f k a0 a1 a2 a3) (withyref03_Put.f (k + 1) a0 a1 a2 a3) := by
 intro a0 a1 a2 a3 k
 obtain ⟨ih0, ih1⟩ := withyref03_Put.mono_l k
 unfold withyref03_Put.f
 repeat' first
   | (with_reducible exact ih0 _ _ _)
   | (with_reducible exact ih1 _ _ _ _ _ _)
   | (with_reducible exact withyref01_Put.mono _ _)
   | (with_reducible exact LeO.refl _)
   | (with_reducible exact LeO.none _)
   | (with_reducible refine LeO.ite ?_ ?_)
   | (with_reducible refine LeO.bind ?_ (fun _ => ?_))
   | exact ih0 _ _ _
   | exact ih1 _ _ _ _ _ _
   | exact withyref01_Put.mono _ _
   | exact LeO.none _
   | refine LeO.ite ?_ ?_
   | refine LeO.bind ?_ (fun _ => ?_)
set_option maxHeartbeats 8000000 in
set_option maxRecDepth 100000 in
theorem withyref03_Put.calls (k : Nat) (a0_0 : Int) (a0_1 : Int) (a0_2 : Int) (a0_3 : ByteArray) (r1 : ByteArray) (r2 : Int) (w : World) (h : withyref03_Put.f k a0_0 a0_1 a0_2 a0_3 = some (r1, r2)) :
  Calls Tryd.prog 11 #[.agg #[.int .i64 a0_0, .int .i64 a0_1, .int .u64 a0_2, .string a0_3]] w fun e w' => e = .returned (.tuple #[.string r1, .int .i64 r2]) ∧ Below w.heap.size w w' := by
 have hu32 := Tryd.underlying32
 have HB := as_ (Below.refl w.heap.size w)
 have H : ((withyref03_Right.f a0_0 a0_1 a0_2 a0_3).bind fun t151 => (if t151 = true then (if a0_0 = 0 then (some ((⟨#[16]⟩ : ByteArray), 0)) else (if a0_0 = 1 then (some (strOfNums (([(IntKind.u64.wrap (32 + a0_2)) % 256] : List Int)), 0)) else (if a0_0 = 2 then (withyref03_Put.l0 k (IntKind.u64.wrap ((IntKind.u64.wrap (a0_1)) + 9223372036854775808)) (⟨#[]⟩ : ByteArray) 0) else (if a0_0 = 3 then ((withyref01_Put.f k a0_2).bind fun t158 => (if 1 + t158.size ≤ 9223372036854775807 then (some ((⟨#[64]⟩ : ByteArray) ++ t158, 0)) else (none))) else (withyref03_Put.l1 k (([80] : List Int)) 0 a0_0 a0_1 a0_2 a0_3))))) else (some ((⟨#[]⟩ : ByteArray), 3)))) = some (r1, r2) := h
 clear h
 replace H := bM H
 obtain ⟨t151, A20, H⟩ := H
 replace H : (if t151 = true then (if a0_0 = 0 then (some ((⟨#[16]⟩ : ByteArray), 0)) else (if a0_0 = 1 then (some (strOfNums (([(IntKind.u64.wrap (32 + a0_2)) % 256] : List Int)), 0)) else (if a0_0 = 2 then (withyref03_Put.l0 k (IntKind.u64.wrap ((IntKind.u64.wrap (a0_1)) + 9223372036854775808)) (⟨#[]⟩ : ByteArray) 0) else (if a0_0 = 3 then ((withyref01_Put.f k a0_2).bind fun t158 => (if 1 + t158.size ≤ 9223372036854775807 then (some ((⟨#[64]⟩ : ByteArray) ++ t158, 0)) else (none))) else (withyref03_Put.l1 k (([80] : List Int)) 0 a0_0 a0_1 a0_2 a0_3))))) else (some ((⟨#[]⟩ : ByteArray), 3))) = some (r1, r2) := H
 have A2 := Aside0.mk A20
 clear A20
 by_cases c3 : t151 = true
 rotate_left
 ·replace c3 := Bool.eq_false_iff.mpr c3
  subst c3
  have H1 : (some ((⟨#[]⟩ : ByteArray), 3)) = some (r1, r2) := by rw [if_neg (show ¬ (false = true) by decide)] at H; exact H
  clear H
  have H := H1
  clear H1
  simp only [Option.some.injEq, Prod.mk.injEq] at H
  obtain ⟨rfl, rfl⟩ := H
  go_enter Tryd.func11, Tryd.ntmps11
  go_wp2_with (first | ((with_reducible refine gate_dst (N := 1) rfl ?_); refine box_event (by rfl) (N := 1) (by rfl) (cs := #[.int .i64 a0_0, .int .i64 a0_1, .int .u64 a0_2, .string a0_3]) (t := 32) gS ?_; intro gb150 hg w65 hbox hb; have BK150 := as_ (hbox); have GW150 := gw hg bA; have GE150 := gw hg bA; replace HB := as_ (below_step bA hb); clear hb hbox hg; obtain ⟨hcz66_0, hcz66_1, hcz66_2, hcz66_3⟩ := zc4 BK150; obtain ⟨hfz66_0, hfz66_1, hfz66_2, hfz66_3⟩ := zf4 BK150) | ((with_reducible refine gate_callee (f := 16) rfl ?_); refine goesL_ (some 10) rfl rfl Tryd.func16 (by kernel_rfl) rfl #[.agg #[.int .i64 a0_0, .int .i64 a0_1, .int .u64 a0_2, .string a0_3]] rfl aO ?_; (with_reducible refine (withyref03_Right.calls a0_0 a0_1 a0_2 a0_3 false _ A2.out).mono ?_); rintro e w67 ⟨rfl, hb⟩; refine ⟨_, rfl, ?_⟩; replace BK150 := bb BK150 hb; replace HB := as_ (below_step bA hb); (try clear hb); (try clear hb2); (try clear hk); (try clear hi)))
  go_ret2
  exact ⟨eW, by repeat (first | (with_reducible first | exact HB.out | apply below_alloc | apply pw_below_drewN | apply below_drew1 | refine below_set ?_ GE150.out) | exact HB.out)⟩
 
 subst c3
 have H1 : (if a0_0 = 0 then (some ((⟨#[16]⟩ : ByteArray), 0)) else (if a0_0 = 1 then (some (strOfNums (([(IntKind.u64.wrap (32 + a0_2)) % 256] : List Int)), 0)) else (if a0_0 = 2 then (withyref03_Put.l0 k (IntKind.u64.wrap ((IntKind.u64.wrap (a0_1)) + 9223372036854775808)) (⟨#[]⟩ : ByteArray) 0) else (if a0_0 = 3 then ((withyref01_Put.f k a0_2).bind fun t158 => (if 1 + t158.size ≤ 9223372036854775807 then (some ((⟨#[64]⟩ : ByteArray) ++ t158, 0)) else (none))) else (withyref03_Put.l1 k (([80] : List Int)) 0 a0_0 a0_1 a0_2 a0_3))))) = some (r1, r2) := by rw [if_pos rfl] at H; exact H
 clear H
 have H := H1
 clear H1
 by_cases c4 : a0_0 = 0
 ·rw [if_pos c4] at H
  have c4b0 : (a0_0 == 0) = true := beq_iff_eq.mpr c4
  have c4b1 : (a0_0 != 0) = false := bne_eq_false_iff_eq.mpr c4
  clear c4
  simp only [Option.some.injEq, Prod.mk.injEq] at H
  obtain ⟨rfl, rfl⟩ := H
  go_enter Tryd.func11, Tryd.ntmps11
  go_wp2_with (first | ((with_reducible refine gate_dst (N := 1) rfl ?_); refine box_event (by rfl) (N := 1) (by rfl) (cs := #[.int .i64 a0_0, .int .i64 a0_1, .int .u64 a0_2, .string a0_3]) (t := 32) gS ?_; intro gb150 hg w5 hbox hb; have BK150 := as_ (hbox); have GW150 := gw hg bA; have GE150 := gw hg bA; replace HB := as_ (below_step bA hb); clear hb hbox hg; obtain ⟨hcz6_0, hcz6_1, hcz6_2, hcz6_3⟩ := zc4 BK150; obtain ⟨hfz6_0, hfz6_1, hfz6_2, hfz6_3⟩ := zf4 BK150) | ((with_reducible refine gate_callee (f := 16) rfl ?_); refine goesL_ (some 10) rfl rfl Tryd.func16 (by kernel_rfl) rfl #[.agg #[.int .i64 a0_0, .int .i64 a0_1, .int .u64 a0_2, .string a0_3]] rfl aO ?_; (with_reducible refine (withyref03_Right.calls a0_0 a0_1 a0_2 a0_3 true _ A2.out).mono ?_); rintro e w7 ⟨rfl, hb⟩; refine ⟨_, rfl, ?_⟩; replace BK150 := bb BK150 hb; replace HB := as_ (below_step bA hb); (try clear hb); (try clear hb2); (try clear hk); (try clear hi); obtain ⟨hcz8_0, hcz8_1, hcz8_2, hcz8_3⟩ := zc4 BK150; obtain ⟨hfz8_0, hfz8_1, hfz8_2, hfz8_3⟩ := zf4 BK150))
  go_ret2
  exact ⟨eW, by repeat (first | (with_reducible first | exact HB.out | apply below_alloc | apply pw_below_drewN | apply below_drew1 | refine below_set ?_ GE150.out) | exact HB.out)⟩
 rw [if_neg c4] at H
 have c4b0 : (a0_0 == 0) = false := beq_eq_false_iff_ne.mpr c4
 have c4b1 : (a0_0 != 0) = true := bne_iff_ne.mpr c4
 by_cases c9 : a0_0 = 1
 ·rw [if_pos c9] at H
  have c9b0 : (a0_0 == 1) = true := beq_iff_eq.mpr c9
  have c9b1 : (a0_0 != 1) = false := bne_eq_false_iff_eq.mpr c9
  clear c9
  obtain ⟨y152, hy152⟩ : ∃ y_ : List Int, y_ = (([(IntKind.u64.wrap (32 + a0_2)) % 256] : List Int)) := ⟨_, rfl⟩
  replace H : (some (strOfNums y152, 0)) = some (r1, r2) := by first | (rw [hy152]; with_reducible exact H) | (have H2_ := (Option.bind_some _ _).symm.trans H; rw [hy152]; with_reducible exact H2_) | (have H2_ := (Option.bind_some _ _).symm.trans H; with_reducible exact H2_) | with_reducible exact H | (rw [hy152]; exact H) | exact H
  have Ny152 := Aside0.mk hy152
  clear hy152
  simp only [Option.some.injEq, Prod.mk.injEq] at H
  obtain ⟨rfl, rfl⟩ := H
  go_enter Tryd.func11, Tryd.ntmps11
  go_wp2_with (first | ((with_reducible refine gate_dst (N := 1) rfl ?_); refine box_event (by rfl) (N := 1) (by rfl) (cs := #[.int .i64 a0_0, .int .i64 a0_1, .int .u64 a0_2, .string a0_3]) (t := 32) gS ?_; intro gb150 hg w10 hbox hb; have BK150 := as_ (hbox); have GW150 := gw hg bA; have GE150 := gw hg bA; replace HB := as_ (below_step bA hb); clear hb hbox hg; obtain ⟨hcz11_0, hcz11_1, hcz11_2, hcz11_3⟩ := zc4 BK150; obtain ⟨hfz11_0, hfz11_1, hfz11_2, hfz11_3⟩ := zf4 BK150) | ((with_reducible refine gate_callee (f := 16) rfl ?_); refine goesL_ (some 10) rfl rfl Tryd.func16 (by kernel_rfl) rfl #[.agg #[.int .i64 a0_0, .int .i64 a0_1, .int .u64 a0_2, .string a0_3]] rfl aO ?_; (with_reducible refine (withyref03_Right.calls a0_0 a0_1 a0_2 a0_3 true _ A2.out).mono ?_); rintro e w12 ⟨rfl, hb⟩; refine ⟨_, rfl, ?_⟩; replace BK150 := bb BK150 hb; replace HB := as_ (below_step bA hb); (try clear hb); (try clear hb2); (try clear hk); (try clear hi); obtain ⟨hcz13_0, hcz13_1, hcz13_2, hcz13_3⟩ := zc4 BK150; obtain ⟨hfz13_0, hfz13_1, hfz13_2, hfz13_3⟩ := zf4 BK150) | ((with_reducible refine gate_dst (N := 22) rfl ?_); refine Kd.R_lit (Kd.int .u8) _ 5 ?hg (N := 22) ?hd (xs := ([(IntKind.u64.wrap (32 + a0_2)) % 256] : List Int)) (inner := [.int .u8 ((IntKind.u64.wrap (32 + a0_2)) % 256)]) (ok := fun _ => True) (okp := fun _ => True) ?hr ?hp (fun _ hk => hk) trivial (Below.refl _ _) (Nat.le_refl _) (by simp) ?_; (case hd => rfl); (case hg => rfl); (case hr => first | (go_simp; done) | (go_simp; rfl)); (case hp => exact (Reps.one (show Kd.M (Kd.int .u8) _ _ _ ((IntKind.u64.wrap (32 + a0_2)) % 256) [.int .u8 ((IntKind.u64.wrap (32 + a0_2)) % 256)] from rfl) (Reps.none _ _))); intro v153 w14 ho15 hb hg_ hnew_; clear hg_ hnew_; (first | rw [← Ny152.out] at ho15 | (simp only [Int.reduceToNat] at ho15; rw [← Ny152.out] at ho15)); have HO154 := as_ (Kd.R_lower ho15 (below_size bA)); replace BK150 := bb BK150 hb; replace HB := as_ (below_step bA hb); clear hb ho15; have hcv16 := own_string (P := Tryd.prog) Tryd.underlying49 Tryd.underlying5 Tryd.underlying9 (Kd.own_of_R HO154.out)))
  go_ret2
  exact ⟨eW, by repeat (first | (with_reducible first | exact HB.out | apply below_alloc | apply pw_below_drewN | apply below_drew1 | refine below_set ?_ GE150.out) | exact HB.out)⟩
 rw [if_neg c9] at H
 have c9b0 : (a0_0 == 1) = false := beq_eq_false_iff_ne.mpr c9
 have c9b1 : (a0_0 != 1) = true := bne_iff_ne.mpr c9
 by_cases c17 : a0_0 = 2
 ·rw [if_pos c17] at H
  have c17b0 : (a0_0 == 2) = true := beq_iff_eq.mpr c17
  have c17b1 : (a0_0 != 2) = false := bne_eq_false_iff_eq.mpr c17
  clear c17
  have H' := Aside0.mk H
  clear H
  go_enter Tryd.func11, Tryd.ntmps11
  go_wp2_with (first | ((with_reducible refine gate_dst (N := 1) rfl ?_); refine box_event (by rfl) (N := 1) (by rfl) (cs := #[.int .i64 a0_0, .int .i64 a0_1, .int .u64 a0_2, .string a0_3]) (t := 32) gS ?_; intro gb150 hg w18 hbox hb; have BK150 := as_ (hbox); have GW150 := gw hg bA; have GE150 := gw hg bA; replace HB := as_ (below_step bA hb); clear hb hbox hg; obtain ⟨hcz19_0, hcz19_1, hcz19_2, hcz19_3⟩ := zc4 BK150; obtain ⟨hfz19_0, hfz19_1, hfz19_2, hfz19_3⟩ := zf4 BK150) | ((with_reducible refine gate_callee (f := 16) rfl ?_); refine goesL_ (some 10) rfl rfl Tryd.func16 (by kernel_rfl) rfl #[.agg #[.int .i64 a0_0, .int .i64 a0_1, .int .u64 a0_2, .string a0_3]] rfl aO ?_; (with_reducible refine (withyref03_Right.calls a0_0 a0_1 a0_2 a0_3 true _ A2.out).mono ?_); rintro e w20 ⟨rfl, hb⟩; refine ⟨_, rfl, ?_⟩; replace BK150 := bb BK150 hb; replace HB := as_ (below_step bA hb); (try clear hb); (try clear hb2); (try clear hk); (try clear hi); obtain ⟨hcz21_0, hcz21_1, hcz21_2, hcz21_3⟩ := zc4 BK150; obtain ⟨hfz21_0, hfz21_1, hfz21_2, hfz21_3⟩ := zf4 BK150))
  go_loopg [4, 5, 6] k (fun kq v4 v5 v6 w' => ∃ (x4_1 : Int) (x5_1 : ByteArray) (x6_1 : Int), v4 = .int .u64 x4_1 ∧ v5 = .string x5_1 ∧ v6 = .int .i64 x6_1 ∧ Aside0 (withyref03_Put.l0 kq x4_1 x5_1 x6_1 = some (r1, r2)) ∧ Aside0 (kq ≤ k) ∧ Aside0 (w'.heap[gb150]? = some (.cells #[.int .i64 a0_0, .int .i64 a0_1, .int .u64 a0_2, .string a0_3] 32 (0, 0))) ∧ Aside0 (Below w.heap.size w w'))
  case atStart => exact ⟨(IntKind.u64.wrap ((IntKind.u64.wrap (a0_1)) + 9223372036854775808)), ((⟨#[]⟩ : ByteArray)), (0), (by first | rfl | (simp; done) | (simp [*]; done)), (by first | rfl | (simp; done) | (simp [*]; done)), (by first | rfl | (simp; done) | (simp [*]; done)), H', ⟨Nat.le_refl _⟩, ⟨by refine bx ?_; exact BK150.out⟩, ⟨by repeat (first | (with_reducible first | exact HB.out | apply below_alloc | apply pw_below_drewN | apply below_drew1 | refine below_set ?_ GE150.out) | exact HB.out)⟩⟩
  case round =>
   clear H'
   try clear c1
   try clear hcv1
   try clear p2
   try clear c3
   try clear c4
   try clear c4b0
   try clear c4b1
   try clear c9
   try clear c9b0
   try clear c9b1
   try clear c11
   try clear c16
   try clear hcv16
   try clear c17
   try clear c17b0
   try clear c17b1
   try clear hcz11_0
   try clear hcz11_1
   try clear hcz11_2
   try clear hcz11_3
   try clear hcz13_0
   try clear hcz13_1
   try clear hcz13_2
   try clear hcz13_3
   try clear hcz19_0
   try clear hcz19_1
   try clear hcz19_2
   try clear hcz19_3
   try clear hcz21_0
   try clear hcz21_1
   try clear hcz21_2
   try clear hcz21_3
   try clear hcz6_0
   try clear hcz6_1
   try clear hcz6_2
   try clear hcz6_3
   try clear hcz8_0
   try clear hcz8_1
   try clear hcz8_2
   try clear hcz8_3
   try clear hfz11_0
   try clear hfz11_1
   try clear hfz11_2
   try clear hfz11_3
   try clear hfz13_0
   try clear hfz13_1
   try clear hfz13_2
   try clear hfz13_3
   try clear hfz19_0
   try clear hfz19_1
   try clear hfz19_2
   try clear hfz19_3
   try clear hfz21_0
   try clear hfz21_1
   try clear hfz21_2
   try clear hfz21_3
   try clear hfz6_0
   try clear hfz6_1
   try clear hfz6_2
   try clear hfz6_3
   try clear hfz8_0
   try clear hfz8_1
   try clear hfz8_2
   try clear hfz8_3
   obtain ⟨x4_1, x5_1, x6_1, rfl, rfl, rfl, HA, HK1, BK150, HB⟩ := hrel
   cases gk with
   | zero => exact absurd HA.out (by simp [withyref03_Put.l0])
   | succ k1 =>
    have H := HA.out
    clear HA
    simp only [withyref03_Put.l0] at H
    by_cases c22 : x6_1 < 8
    rotate_left
    ·rw [if_neg c22] at H
     have c22b0 : decide (x6_1 < 8) = false := decide_eq_false c22
     clear c22
     by_cases c28 : 1 + x5_1.size ≤ 9223372036854775807
     rotate_left
     ·rw [if_neg c28] at H
      exact absurd H (by simp)
     rw [if_pos c28] at H
     have c28b0 := eq_true c28
     have c28b1 : decide (1 + x5_1.size ≤ 9223372036854775807) = true := decide_eq_true c28
     try have c28b2 : (9223372036854775807 < 1 + x5_1.size) = False := eq_false (Nat.not_lt.2 c28)
     obtain ⟨js29, hjs29⟩ : ∃ j_ : ByteArray, ((⟨#[48]⟩ : ByteArray) ++ x5_1) = j_ := ⟨_, rfl⟩
     replace H : (some (js29, 0)) = some (r1, r2) := by first | (rw [hjs29] at H; exact H) | (simp only [hjs29] at H ⊢; exact H)
     simp only [Option.some.injEq, Prod.mk.injEq] at H
     obtain ⟨rfl, rfl⟩ := H
     go_wp2
     go_ret2
     exact ⟨by first | rfl | (simp [errW_none, errW_some] <;> rfl) | (simp only [← hjs29]; first | rfl | (simp [errW_none, errW_some] <;> rfl)) | (simp [*, errW_none, errW_some] <;> rfl), by repeat (first | (with_reducible first | exact HB.out | apply below_alloc | apply pw_below_drewN | apply below_drew1 | refine below_set ?_ GE150.out) | exact HB.out)⟩
    rw [if_pos c22] at H
    have c22b0 : decide (x6_1 < 8) = true := decide_eq_true c22
    clear c22
    obtain ⟨y155, hy155⟩ : ∃ y_ : List Int, y_ = (([(Int.tmod x4_1 256) % 256] : List Int)) := ⟨_, rfl⟩
    replace H : (if (strOfNums y155).size + x5_1.size ≤ 9223372036854775807 then (withyref03_Put.l0 k1 (IntKind.u64.wrap (Int.tdiv x4_1 256)) ((strOfNums y155) ++ x5_1) (wrap64 (x6_1 + 1))) else (none)) = some (r1, r2) := by first | (rw [hy155]; with_reducible exact H) | (have H2_ := (Option.bind_some _ _).symm.trans H; rw [hy155]; with_reducible exact H2_) | (have H2_ := (Option.bind_some _ _).symm.trans H; with_reducible exact H2_) | with_reducible exact H | (rw [hy155]; exact H) | exact H
    have Ny155 := Aside0.mk hy155
    clear hy155
    by_cases c23 : (strOfNums y155).size + x5_1.size ≤ 9223372036854775807
    rotate_left
    ·rw [if_neg c23] at H
     exact absurd H (by simp)
    rw [if_pos c23] at H
    have c23b0 := eq_true c23
    have c23b1 : decide ((strOfNums y155).size + x5_1.size ≤ 9223372036854775807) = true := decide_eq_true c23
    try have c23b2 : (9223372036854775807 < (strOfNums y155).size + x5_1.size) = False := eq_false (Nat.not_lt.2 c23)
    obtain ⟨js24, hjs24⟩ : ∃ j_ : ByteArray, ((strOfNums y155) ++ x5_1) = j_ := ⟨_, rfl⟩
    replace H : (withyref03_Put.l0 k1 (IntKind.u64.wrap (Int.tdiv x4_1 256)) js24 (wrap64 (x6_1 + 1))) = some (r1, r2) := by first | (rw [hjs24] at H; exact H) | (simp only [hjs24] at H ⊢; exact H)
    have H' := Aside0.mk H
    clear H
    go_wp2_with (first | ((with_reducible refine gate_dst (N := 37) rfl ?_); refine Kd.R_lit (Kd.int .u8) _ 5 ?hg (N := 37) ?hd (xs := ([(Int.tmod x4_1 256) % 256] : List Int)) (inner := [.int .u8 ((Int.tmod x4_1 256) % 256)]) (ok := fun _ => True) (okp := fun _ => True) ?hr ?hp (fun _ hk => hk) trivial (Below.refl _ _) (Nat.le_refl _) (by simp) ?_; (case hd => rfl); (case hg => rfl); (case hr => first | (go_simp; done) | (go_simp; rfl)); (case hp => exact (Reps.one (show Kd.M (Kd.int .u8) _ _ _ ((Int.tmod x4_1 256) % 256) [.int .u8 ((Int.tmod x4_1 256) % 256)] from rfl) (Reps.none _ _))); intro v156 w25 ho26 hb hg_ hnew_; clear hg_ hnew_; (first | rw [← Ny155.out] at ho26 | (simp only [Int.reduceToNat] at ho26; rw [← Ny155.out] at ho26)); have HO157 := as_ (Kd.R_lower ho26 (below_size bA)); replace BK150 := bb BK150 hb; replace HB := as_ (below_step bA hb); clear hb ho26; have hcv27 := own_string (P := Tryd.prog) Tryd.underlying49 Tryd.underlying5 Tryd.underlying9 (Kd.own_of_R HO157.out)))
    go_roundg k1
    case measure => have := HK1.out; omega
    case rel => exact ⟨(IntKind.u64.wrap (Int.tdiv x4_1 256)), (js24), (wrap64 (x6_1 + 1)), (by first | rfl | (simp; done) | (simp [*]; done)), (by first | rfl | (simp; done) | (simp only [← hjs24] <;> (first | rfl | simp)) | (simp [*]; done)), (by first | rfl | (simp; done) | (simp [*]; done)), H', ⟨by have := HK1.out; omega⟩, ⟨by refine bx ?_; exact BK150.out⟩, ⟨by repeat (first | (with_reducible first | exact HB.out | apply below_alloc | apply pw_below_drewN | apply below_drew1 | refine below_set ?_ GE150.out) | exact HB.out)⟩⟩
 rw [if_neg c17] at H
 have c17b0 : (a0_0 == 2) = false := beq_eq_false_iff_ne.mpr c17
 have c17b1 : (a0_0 != 2) = true := bne_iff_ne.mpr c17
 by_cases c30 : a0_0 = 3
 ·rw [if_pos c30] at H
  have c30b0 : (a0_0 == 3) = true := beq_iff_eq.mpr c30
  have c30b1 : (a0_0 != 3) = false := bne_eq_false_iff_eq.mpr c30
  clear c30
  replace H := bM H
  obtain ⟨t158, A310, H⟩ := H
  replace H : (if 1 + t158.size ≤ 9223372036854775807 then (some ((⟨#[64]⟩ : ByteArray) ++ t158, 0)) else (none)) = some (r1, r2) := H
  have A31 := Aside0.mk A310
  clear A310
  by_cases c32 : 1 + t158.size ≤ 9223372036854775807
  rotate_left
  ·rw [if_neg c32] at H
   exact absurd H (by simp)
  rw [if_pos c32] at H
  have c32b0 := eq_true c32
  have c32b1 : decide (1 + t158.size ≤ 9223372036854775807) = true := decide_eq_true c32
  try have c32b2 : (9223372036854775807 < 1 + t158.size) = False := eq_false (Nat.not_lt.2 c32)
  obtain ⟨js33, hjs33⟩ : ∃ j_ : ByteArray, ((⟨#[64]⟩ : ByteArray) ++ t158) = j_ := ⟨_, rfl⟩
  replace H : (some (js33, 0)) = some (r1, r2) := by first | (rw [hjs33] at H; exact H) | (simp only [hjs33] at H ⊢; exact H)
  (try rw [hjs33] at A2)
  (try rw [hjs33] at A31)
  simp only [Option.some.injEq, Prod.mk.injEq] at H
  obtain ⟨rfl, rfl⟩ := H
  go_enter Tryd.func11, Tryd.ntmps11
  go_wp2_with (first | ((with_reducible refine gate_dst (N := 1) rfl ?_); refine box_event (by rfl) (N := 1) (by rfl) (cs := #[.int .i64 a0_0, .int .i64 a0_1, .int .u64 a0_2, .string a0_3]) (t := 32) gS ?_; intro gb150 hg w34 hbox hb; have BK150 := as_ (hbox); have GW150 := gw hg bA; have GE150 := gw hg bA; replace HB := as_ (below_step bA hb); clear hb hbox hg; obtain ⟨hcz35_0, hcz35_1, hcz35_2, hcz35_3⟩ := zc4 BK150; obtain ⟨hfz35_0, hfz35_1, hfz35_2, hfz35_3⟩ := zf4 BK150) | ((with_reducible refine gate_callee (f := 16) rfl ?_); refine goesL_ (some 10) rfl rfl Tryd.func16 (by kernel_rfl) rfl #[.agg #[.int .i64 a0_0, .int .i64 a0_1, .int .u64 a0_2, .string a0_3]] rfl aO ?_; (with_reducible refine (withyref03_Right.calls a0_0 a0_1 a0_2 a0_3 true _ A2.out).mono ?_); rintro e w36 ⟨rfl, hb⟩; refine ⟨_, rfl, ?_⟩; replace BK150 := bb BK150 hb; replace HB := as_ (below_step bA hb); (try clear hb); (try clear hb2); (try clear hk); (try clear hi); obtain ⟨hcz37_0, hcz37_1, hcz37_2, hcz37_3⟩ := zc4 BK150; obtain ⟨hfz37_0, hfz37_1, hfz37_2, hfz37_3⟩ := zf4 BK150) | ((with_reducible refine gate_callee (f := 29) rfl ?_); refine goesL_ (some 49) rfl rfl Tryd.func29 (by kernel_rfl) rfl #[.int .u64 a0_2] rfl aO ?_; (with_reducible refine (withyref01_Put.calls k a0_2 t158 _ A31.out).mono ?_); rintro e w38 ⟨rfl, hb⟩; refine ⟨_, rfl, ?_⟩; replace BK150 := bb BK150 hb; replace HB := as_ (below_step bA hb); (try clear hb); (try clear hb2); (try clear hk); (try clear hi)))
  go_ret2
  exact ⟨by first | rfl | (simp [errW_none, errW_some] <;> rfl) | (simp only [← hjs33]; first | rfl | (simp [errW_none, errW_some] <;> rfl)) | (simp [*, errW_none, errW_some] <;> rfl), by repeat (first | (with_reducible first | exact HB.out | apply below_alloc | apply pw_below_drewN | apply below_drew1 | refine below_set ?_ GE150.out) | exact HB.out)⟩
 rw [if_neg c30] at H
 have c30b0 : (a0_0 == 3) = false := beq_eq_false_iff_ne.mpr c30
 have c30b1 : (a0_0 != 3) = true := bne_iff_ne.mpr c30
 obtain ⟨y159, hy159⟩ : ∃ y_ : List Int, y_ = (([80] : List Int)) := ⟨_, rfl⟩
 replace H : (withyref03_Put.l1 k y159 0 a0_0 a0_1 a0_2 a0_3) = some (r1, r2) := by first | (rw [hy159]; with_reducible exact H) | (have H2_ := (Option.bind_some _ _).symm.trans H; rw [hy159]; with_reducible exact H2_) | (have H2_ := (Option.bind_some _ _).symm.trans H; with_reducible exact H2_) | with_reducible exact H | (rw [hy159]; exact H) | exact H
 have Ny159 := Aside0.mk hy159
 clear hy159
 have H' := Aside0.mk H
 clear H
 go_enter Tryd.func11, Tryd.ntmps11
 go_wp2_with (first | ((with_reducible refine gate_dst (N := 1) rfl ?_); refine box_event (by rfl) (N := 1) (by rfl) (cs := #[.int .i64 a0_0, .int .i64 a0_1, .int .u64 a0_2, .string a0_3]) (t := 32) gS ?_; intro gb150 hg w39 hbox hb; have BK150 := as_ (hbox); have GW150 := gw hg bA; have GE150 := gw hg bA; replace HB := as_ (below_step bA hb); clear hb hbox hg; obtain ⟨hcz40_0, hcz40_1, hcz40_2, hcz40_3⟩ := zc4 BK150; obtain ⟨hfz40_0, hfz40_1, hfz40_2, hfz40_3⟩ := zf4 BK150) | ((with_reducible refine gate_callee (f := 16) rfl ?_); refine goesL_ (some 10) rfl rfl Tryd.func16 (by kernel_rfl) rfl #[.agg #[.int .i64 a0_0, .int .i64 a0_1, .int .u64 a0_2, .string a0_3]] rfl aO ?_; (with_reducible refine (withyref03_Right.calls a0_0 a0_1 a0_2 a0_3 true _ A2.out).mono ?_); rintro e w41 ⟨rfl, hb⟩; refine ⟨_, rfl, ?_⟩; replace BK150 := bb BK150 hb; replace HB := as_ (below_step bA hb); (try clear hb); (try clear hb2); (try clear hk); (try clear hi); obtain ⟨hcz42_0, hcz42_1, hcz42_2, hcz42_3⟩ := zc4 BK150; obtain ⟨hfz42_0, hfz42_1, hfz42_2, hfz42_3⟩ := zf4 BK150) | ((with_reducible refine gate_dst (N := 51) rfl ?_); refine Kd.R_lit (Kd.int .u8) _ 5 ?hg (N := 51) ?hd (xs := ([80] : List Int)) (inner := [.int .u8 80]) (ok := fun _ => True) (okp := fun _ => True) ?hr ?hp (fun _ hk => hk) trivial (Below.refl _ _) (Nat.le_refl _) (by simp) ?_; (case hd => rfl); (case hg => rfl); (case hr => first | (go_simp; done) | (go_simp; rfl)); (case hp => exact (Reps.one (show Kd.M (Kd.int .u8) _ _ _ 80 [.int .u8 80] from rfl) (Reps.none _ _))); intro v160 w43 ho44 hb hg_ hnew_; clear hg_ hnew_; (first | rw [← Ny159.out] at ho44 | (simp only [Int.reduceToNat] at ho44; rw [← Ny159.out] at ho44)); have HO161 := as_ (Kd.R_lower ho44 (below_size bA)); replace BK150 := bb BK150 hb; replace HB := as_ (below_step bA hb); clear hb ho44))
 go_loopg [7, 8] k (fun kq v7 v8 w' => ∃ (x7_1 : List Int) (x8_1 : Int), v8 = .int .i64 x8_1 ∧ Aside0 (withyref03_Put.l1 kq x7_1 x8_1 a0_0 a0_1 a0_2 a0_3 = some (r1, r2)) ∧ Aside0 (kq ≤ k) ∧ Aside0 (Kd.R (Kd.int .u8) 5 w' w.heap.size (fun _ => True) v7 x7_1) ∧ Aside0 (w'.heap[gb150]? = some (.cells #[.int .i64 a0_0, .int .i64 a0_1, .int .u64 a0_2, .string a0_3] 32 (0, 0))) ∧ Aside0 (Below w.heap.size w w'))
 case atStart => exact ⟨(y159), (0), (by first | rfl | (simp; done) | (simp [*]; done)), H', ⟨Nat.le_refl _⟩, ⟨by (with_reducible repeat (first | apply Kd.R_alloc | apply Kd.R_drewN | apply Kd.R_drew)); exact HO161.out⟩, ⟨by refine bx ?_; exact BK150.out⟩, ⟨by repeat (first | (with_reducible first | exact HB.out | apply below_alloc | apply pw_below_drewN | apply below_drew1 | refine below_set ?_ GE150.out) | exact HB.out)⟩⟩
 case round =>
  clear H'
  try clear c1
  try clear hcv1
  try clear c2
  try clear p2
  try clear hcv2
  try clear c3
  try clear c4
  try clear c4b0
  try clear c4b1
  try clear p6
  try clear c9
  try clear c9b0
  try clear c9b1
  try clear c11
  try clear c16
  try clear hcv16
  try clear c17
  try clear c17b0
  try clear c17b1
  try clear c22
  try clear c22b0
  try clear c23
  try clear c23b0
  try clear c23b1
  try clear c23b2
  try clear hcv27
  try clear c28
  try clear c28b0
  try clear c28b1
  try clear c28b2
  try clear c29
  try clear c30
  try clear c30b0
  try clear c30b1
  try clear c32
  try clear c32b0
  try clear c32b1
  try clear c32b2
  try clear hcz11_0
  try clear hcz11_1
  try clear hcz11_2
  try clear hcz11_3
  try clear hcz13_0
  try clear hcz13_1
  try clear hcz13_2
  try clear hcz13_3
  try clear hcz19_0
  try clear hcz19_1
  try clear hcz19_2
  try clear hcz19_3
  try clear hcz21_0
  try clear hcz21_1
  try clear hcz21_2
  try clear hcz21_3
  try clear hcz35_0
  try clear hcz35_1
  try clear hcz35_2
  try clear hcz35_3
  try clear hcz37_0
  try clear hcz37_1
  try clear hcz37_2
  try clear hcz37_3
  try clear hcz40_0
  try clear hcz40_1
  try clear hcz40_2
  try clear hcz40_3
  try clear hcz42_0
  try clear hcz42_1
  try clear hcz42_2
  try clear hcz42_3
  try clear hcz6_0
  try clear hcz6_1
  try clear hcz6_2
  try clear hcz6_3
  try clear hcz8_0
  try clear hcz8_1
  try clear hcz8_2
  try clear hcz8_3
  try clear hfz11_0
  try clear hfz11_1
  try clear hfz11_2
  try clear hfz11_3
  try clear hfz13_0
  try clear hfz13_1
  try clear hfz13_2
  try clear hfz13_3
  try clear hfz19_0
  try clear hfz19_1
  try clear hfz19_2
  try clear hfz19_3
  try clear hfz21_0
  try clear hfz21_1
  try clear hfz21_2
  try clear hfz21_3
  try clear hfz35_0
  try clear hfz35_1
  try clear hfz35_2
  try clear hfz35_3
  try clear hfz37_0
  try clear hfz37_1
  try clear hfz37_2
  try clear hfz37_3
  try clear hfz40_0
  try clear hfz40_1
  try clear hfz40_2
  try clear hfz40_3
  try clear hfz42_0
  try clear hfz42_1
  try clear hfz42_2
  try clear hfz42_3
  try clear hfz6_0
  try clear hfz6_1
  try clear hfz6_2
  try clear hfz6_3
  try clear hfz8_0
  try clear hfz8_1
  try clear hfz8_2
  try clear hfz8_3
  try clear p2
  obtain ⟨x7_1, x8_1, rfl, HA, HK1, HO_7, BK150, HB⟩ := hrel
  cases gk with
  | zero => exact absurd HA.out (by simp [withyref03_Put.l1])
  | succ k1 =>
   have H := HA.out
   clear HA
   simp only [withyref03_Put.l1] at H
   by_cases c45 : x8_1 < (a0_3.size : Int)
   rotate_left
   ·rw [if_neg c45] at H
    have c45b0 : decide (x8_1 < (a0_3.size : Int)) = false := decide_eq_false c45
    clear c45
    by_cases c59 : x7_1.length < 140737488355328
    rotate_left
    ·rw [if_neg c59] at H
     exact absurd H (by simp)
    rw [if_pos c59] at H
    have LMc59 := Aside0.mk c59
    clear c59
    obtain ⟨y168, hy168⟩ : ∃ y_ : List Int, y_ = (x7_1 ++ [0]) := ⟨_, rfl⟩
    replace H : (if y168.length < 140737488355328 then (some (strOfNums (y168 ++ [1]), 0)) else (none)) = some (r1, r2) := by first | (rw [hy168]; with_reducible exact H) | (have H2_ := (Option.bind_some _ _).symm.trans H; rw [hy168]; with_reducible exact H2_) | (have H2_ := (Option.bind_some _ _).symm.trans H; with_reducible exact H2_) | with_reducible exact H | (rw [hy168]; exact H) | exact H
    have Ny168 := Aside0.mk hy168
    clear hy168
    by_cases c60 : y168.length < 140737488355328
    rotate_left
    ·rw [if_neg c60] at H
     exact absurd H (by simp)
    rw [if_pos c60] at H
    have LMc60 := Aside0.mk c60
    clear c60
    obtain ⟨y171, hy171⟩ : ∃ y_ : List Int, y_ = (y168 ++ [1]) := ⟨_, rfl⟩
    replace H : (some (strOfNums y171, 0)) = some (r1, r2) := by first | (rw [hy171]; with_reducible exact H) | (have H2_ := (Option.bind_some _ _).symm.trans H; rw [hy171]; with_reducible exact H2_) | (have H2_ := (Option.bind_some _ _).symm.trans H; with_reducible exact H2_) | with_reducible exact H | (rw [hy171]; exact H) | exact H
    have Ny171 := Aside0.mk hy171
    clear hy171
    simp only [Option.some.injEq, Prod.mk.injEq] at H
    obtain ⟨rfl, rfl⟩ := H
    obtain ⟨hcz61_0, hcz61_1, hcz61_2, hcz61_3⟩ := zc4 BK150
    obtain ⟨hfz61_0, hfz61_1, hfz61_2, hfz61_3⟩ := zf4 BK150
    go_wp2_with (first | ((with_reducible refine gate_builtin (b := .append) (xs := #[.tmp 74, .tmp 75]) rfl ?_); at_builtin; refine Kd.R_append (Kd.int .u8) (w0 := w) w.heap.size rfl (.tmp 74) (.tmp 75) 49 5 (.int .u8 0) 1 rfl Tryd.underlying49 info5 rfl (by decide) (by omega) u7 x7_1 0 [.int .u8 0] (fun _ => True) (fun _ => False) rfl rfl ?aP (fun _ hk => hk.elim) ?aF ?aO ?aB ?aS ?aL ?_; (case aP => exact rfl); (case aB => exact bA); (case aF => exact (fun _ _ => trivial)); (case aO => exact (by (with_reducible repeat (first | apply Kd.R_alloc | apply Kd.R_drewN | apply Kd.R_drew)); exact HO_7.out)); (case aS => exact (below_size bA)); (case aL => have := LMc59.out; omega); intro v169 w62 ho hb hg hat; rw [← Ny168.out] at ho; have HO170 := as_ (ho); replace BK150 := as_ (blk_grown (g := gb150) (o := .cells #[.int .i64 a0_0, .int .i64 a0_1, .int .u64 a0_2, .string a0_3] 32 (0, 0)) (bk BK150) hg (Kd.R_ne HO_7.out BK150.out (by decide))); replace HB := as_ (hb); clear HO_7; clear ho hb hg hat) | ((with_reducible refine gate_builtin (b := .append) (xs := #[.tmp 77, .tmp 78]) rfl ?_); at_builtin; refine Kd.R_append (Kd.int .u8) (w0 := w) w.heap.size rfl (.tmp 77) (.tmp 78) 49 5 (.int .u8 0) 1 rfl Tryd.underlying49 info5 rfl (by decide) (by omega) v169 y168 1 [.int .u8 1] (fun _ => True) (fun _ => False) rfl rfl ?aP (fun _ hk => hk.elim) ?aF ?aO ?aB ?aS ?aL ?_; (case aP => exact rfl); (case aB => exact bA); (case aF => exact (fun _ _ => trivial)); (case aO => exact (by (with_reducible repeat (first | apply Kd.R_alloc | apply Kd.R_drewN | apply Kd.R_drew)); exact HO170.out)); (case aS => exact (below_size bA)); (case aL => have := LMc60.out; omega); intro v172 w63 ho hb hg hat; rw [← Ny171.out] at ho; have HO173 := as_ (ho); replace BK150 := as_ (blk_grown (g := gb150) (o := .cells #[.int .i64 a0_0, .int .i64 a0_1, .int .u64 a0_2, .string a0_3] 32 (0, 0)) (bk BK150) hg (Kd.R_ne HO170.out BK150.out (by decide))); replace HB := as_ (hb); clear HO170; clear ho hb hg hat; have hcv64 := own_string (P := Tryd.prog) Tryd.underlying49 Tryd.underlying5 Tryd.underlying9 (Kd.own_of_R HO173.out)))
    go_ret2
    exact ⟨eW, by repeat (first | (with_reducible first | exact HB.out | apply below_alloc | apply pw_below_drewN | apply below_drew1 | refine below_set ?_ GE150.out) | exact HB.out)⟩
   rw [if_pos c45] at H
   have c45b0 : decide (x8_1 < (a0_3.size : Int)) = true := decide_eq_true c45
   clear c45
   by_cases c46 : 0 ≤ x8_1
   rotate_left
   ·rw [if_neg c46] at H
    exact absurd H (by simp)
   rw [if_pos c46] at H
   have c46b0 : decide (0 ≤ x8_1) = true := decide_eq_true c46
   clear c46
   by_cases c48 : x7_1.length < 140737488355328
   rotate_left
   ·rw [if_neg c48] at H
    exact absurd H (by simp)
   rw [if_pos c48] at H
   have LMc48 := Aside0.mk c48
   clear c48
   obtain ⟨y162, hy162⟩ : ∃ y_ : List Int, y_ = (x7_1 ++ [bt a0_3 x8_1]) := ⟨_, rfl⟩
   replace H : (if (bt a0_3 x8_1) = 0 then (if y162.length < 140737488355328 then (withyref03_Put.l1 k1 (y162 ++ [255]) (wrap64 (x8_1 + 1)) a0_0 a0_1 a0_2 a0_3) else (none)) else (withyref03_Put.l1 k1 y162 (wrap64 (x8_1 + 1)) a0_0 a0_1 a0_2 a0_3)) = some (r1, r2) := by first | (rw [hy162]; with_reducible exact H) | (have H2_ := (Option.bind_some _ _).symm.trans H; rw [hy162]; with_reducible exact H2_) | (have H2_ := (Option.bind_some _ _).symm.trans H; with_reducible exact H2_) | with_reducible exact H | (rw [hy162]; exact H) | exact H
   have Ny162 := Aside0.mk hy162
   clear hy162
   by_cases c50 : (bt a0_3 x8_1) = 0
   rotate_left
   ·rw [if_neg c50] at H
    have c50b0 : ((bt a0_3 x8_1) == 0) = false := beq_eq_false_iff_ne.mpr c50
    have c50b1 : ((bt a0_3 x8_1) != 0) = true := bne_iff_ne.mpr c50
    have H' := Aside0.mk H
    clear H
    obtain ⟨hcz56_0, hcz56_1, hcz56_2, hcz56_3⟩ := zc4 BK150
    obtain ⟨hfz56_0, hfz56_1, hfz56_2, hfz56_3⟩ := zf4 BK150
    have p47 : 0 ≤ (x8_1 : Int) := of_decide_eq_true aM
    have q47 : x8_1 < (a0_3.size : Int) := of_decide_eq_true aM
    have hx47 := bt_at a0_3 x8_1
    replace p47 := eq_true p47
    replace q47 := eq_true q47
    go_wp2_with (first | ((with_reducible refine gate_builtin (b := .append) (xs := #[.tmp 59, .tmp 64]) rfl ?_); at_builtin; refine Kd.R_append (Kd.int .u8) (w0 := w) w.heap.size rfl (.tmp 59) (.tmp 64) 49 5 (.int .u8 0) 1 rfl Tryd.underlying49 info5 rfl (by decide) (by omega) u7 x7_1 (bt a0_3 x8_1) [.int .u8 (bt a0_3 x8_1)] (fun _ => True) (fun _ => False) rfl rfl ?aP (fun _ hk => hk.elim) ?aF ?aO ?aB ?aS ?aL ?_; (case aP => exact rfl); (case aB => exact bA); (case aF => exact (fun _ _ => trivial)); (case aO => exact (by (with_reducible repeat (first | apply Kd.R_alloc | apply Kd.R_drewN | apply Kd.R_drew)); exact HO_7.out)); (case aS => exact (below_size bA)); (case aL => have := LMc48.out; omega); intro v163 w57 ho hb hg hat; rw [← Ny162.out] at ho; have HO164 := as_ (ho); replace BK150 := as_ (blk_grown (g := gb150) (o := .cells #[.int .i64 a0_0, .int .i64 a0_1, .int .u64 a0_2, .string a0_3] 32 (0, 0)) (bk BK150) hg (Kd.R_ne HO_7.out BK150.out (by decide))); replace HB := as_ (hb); clear HO_7; clear ho hb hg hat; obtain ⟨hcz58_0, hcz58_1, hcz58_2, hcz58_3⟩ := zc4 BK150; obtain ⟨hfz58_0, hfz58_1, hfz58_2, hfz58_3⟩ := zf4 BK150; have p49 : 0 ≤ (x8_1 : Int) := of_decide_eq_true aM; have q49 : x8_1 < (a0_3.size : Int) := of_decide_eq_true aM; have hx49 := bt_at a0_3 x8_1; replace p49 := eq_true p49; replace q49 := eq_true q49))
    go_roundg k1
    case measure => have := HK1.out; omega
    case rel => exact ⟨(y162), (wrap64 (x8_1 + 1)), (by first | rfl | (simp; done) | (simp [*]; done)), H', ⟨by have := HK1.out; omega⟩, ⟨by (with_reducible repeat (first | apply Kd.R_alloc | apply Kd.R_drewN | apply Kd.R_drew)); exact HO164.out⟩, ⟨by refine bx ?_; exact BK150.out⟩, ⟨by repeat (first | (with_reducible first | exact HB.out | apply below_alloc | apply pw_below_drewN | apply below_drew1 | refine below_set ?_ GE150.out) | exact HB.out)⟩⟩
   rw [if_pos c50] at H
   have c50b0 : ((bt a0_3 x8_1) == 0) = true := beq_iff_eq.mpr c50
   have c50b1 : ((bt a0_3 x8_1) != 0) = false := bne_eq_false_iff_eq.mpr c50
   clear c50
   by_cases c51 : y162.length < 140737488355328
   rotate_left
   ·rw [if_neg c51] at H
    exact absurd H (by simp)
   rw [if_pos c51] at H
   have LMc51 := Aside0.mk c51
   clear c51
   obtain ⟨y165, hy165⟩ : ∃ y_ : List Int, y_ = (y162 ++ [255]) := ⟨_, rfl⟩
   replace H : (withyref03_Put.l1 k1 y165 (wrap64 (x8_1 + 1)) a0_0 a0_1 a0_2 a0_3) = some (r1, r2) := by first | (rw [hy165]; with_reducible exact H) | (have H2_ := (Option.bind_some _ _).symm.trans H; rw [hy165]; with_reducible exact H2_) | (have H2_ := (Option.bind_some _ _).symm.trans H; with_reducible exact H2_) | with_reducible exact H | (rw [hy165]; exact H) | exact H
   have Ny165 := Aside0.mk hy165
   clear hy165
   have H' := Aside0.mk H
   clear H
   obtain ⟨hcz52_0, hcz52_1, hcz52_2, hcz52_3⟩ := zc4 BK150
   obtain ⟨hfz52_0, hfz52_1, hfz52_2, hfz52_3⟩ := zf4 BK150
   have p47 : 0 ≤ (x8_1 : Int) := of_decide_eq_true aM
   have q47 : x8_1 < (a0_3.size : Int) := of_decide_eq_true aM
   have hx47 := bt_at a0_3 x8_1
   replace p47 := eq_true p47
   replace q47 := eq_true q47
   go_wp2_with (first | ((with_reducible refine gate_builtin (b := .append) (xs := #[.tmp 59, .tmp 64]) rfl ?_); at_builtin; refine Kd.R_append (Kd.int .u8) (w0 := w) w.heap.size rfl (.tmp 59) (.tmp 64) 49 5 (.int .u8 0) 1 rfl Tryd.underlying49 info5 rfl (by decide) (by omega) u7 x7_1 (bt a0_3 x8_1) [.int .u8 (bt a0_3 x8_1)] (fun _ => True) (fun _ => False) rfl rfl ?aP (fun _ hk => hk.elim) ?aF ?aO ?aB ?aS ?aL ?_; (case aP => exact rfl); (case aB => exact bA); (case aF => exact (fun _ _ => trivial)); (case aO => exact (by (with_reducible repeat (first | apply Kd.R_alloc | apply Kd.R_drewN | apply Kd.R_drew)); exact HO_7.out)); (case aS => exact (below_size bA)); (case aL => have := LMc48.out; omega); intro v163 w53 ho hb hg hat; rw [← Ny162.out] at ho; have HO164 := as_ (ho); replace BK150 := as_ (blk_grown (g := gb150) (o := .cells #[.int .i64 a0_0, .int .i64 a0_1, .int .u64 a0_2, .string a0_3] 32 (0, 0)) (bk BK150) hg (Kd.R_ne HO_7.out BK150.out (by decide))); replace HB := as_ (hb); clear HO_7; clear ho hb hg hat; obtain ⟨hcz54_0, hcz54_1, hcz54_2, hcz54_3⟩ := zc4 BK150; obtain ⟨hfz54_0, hfz54_1, hfz54_2, hfz54_3⟩ := zf4 BK150; have p49 : 0 ≤ (x8_1 : Int) := of_decide_eq_true aM; have q49 : x8_1 < (a0_3.size : Int) := of_decide_eq_true aM; have hx49 := bt_at a0_3 x8_1; replace p49 := eq_true p49; replace q49 := eq_true q49) | ((with_reducible refine gate_builtin (b := .append) (xs := #[.tmp 71, .tmp 72]) rfl ?_); at_builtin; refine Kd.R_append (Kd.int .u8) (w0 := w) w.heap.size rfl (.tmp 71) (.tmp 72) 49 5 (.int .u8 0) 1 rfl Tryd.underlying49 info5 rfl (by decide) (by omega) v163 y162 255 [.int .u8 255] (fun _ => True) (fun _ => False) rfl rfl ?aP (fun _ hk => hk.elim) ?aF ?aO ?aB ?aS ?aL ?_; (case aP => exact rfl); (case aB => exact bA); (case aF => exact (fun _ _ => trivial)); (case aO => exact (by (with_reducible repeat (first | apply Kd.R_alloc | apply Kd.R_drewN | apply Kd.R_drew)); exact HO164.out)); (case aS => exact (below_size bA)); (case aL => have := LMc51.out; omega); intro v166 w55 ho hb hg hat; rw [← Ny165.out] at ho; have HO167 := as_ (ho); replace BK150 := as_ (blk_grown (g := gb150) (o := .cells #[.int .i64 a0_0, .int .i64 a0_1, .int .u64 a0_2, .string a0_3] 32 (0, 0)) (bk BK150) hg (Kd.R_ne HO164.out BK150.out (by decide))); replace HB := as_ (hb); clear HO164; clear ho hb hg hat))
   go_roundg k1
   case measure => have := HK1.out; omega
   case rel => exact ⟨(y165), (wrap64 (x8_1 + 1)), (by first | rfl | (simp; done) | (simp [*]; done)), H', ⟨by have := HK1.out; omega⟩, ⟨by (with_reducible repeat (first | apply Kd.R_alloc | apply Kd.R_drewN | apply Kd.R_drew)); exact HO167.out⟩, ⟨by refine bx ?_; exact BK150.out⟩, ⟨by repeat (first | (with_reducible first | exact HB.out | apply below_alloc | apply pw_below_drewN | apply below_drew1 | refine below_set ?_ GE150.out) | exact HB.out)⟩⟩
/-! ### withylaw03_Ref: function 12 -/
def withylaw03_Ref.f (a0_0 : Int) (a0_1 : Int) (a0_2 : Int) (a0_3 : ByteArray) : Option (Int × Int × Int × ByteArray) := some (a0_0, a0_1, a0_2, a0_3)
set_option maxHeartbeats 8000000 in
set_option maxRecDepth 100000 in
theorem withylaw03_Ref.calls (a0_0 : Int) (a0_1 : Int) (a0_2 : Int) (a0_3 : ByteArray) (r1 : Int) (r2 : Int) (r3 : Int) (r4 : ByteArray) (w : World) (h : withylaw03_Ref.f a0_0 a0_1 a0_2 a0_3 = some (r1, r2, r3, r4)) :
  Calls Tryd.prog 12 #[.agg #[.int .i64 a0_0, .int .i64 a0_1, .int .u64 a0_2, .string a0_3]] w fun e w' => e = .returned (.agg #[.int .i64 r1, .int .i64 r2, .int .u64 r3, .string r4]) ∧ Below w.heap.size w w' := by
 have hu24 := Tryd.underlying24
 have hu32 := Tryd.underlying32
 have HB := as_ (Below.refl w.heap.size w)
 have H : (some (a0_0, a0_1, a0_2, a0_3)) = some (r1, r2, r3, r4) := h
 clear h
 simp only [Option.some.injEq, Prod.mk.injEq] at H
 obtain ⟨rfl, rfl, rfl, rfl⟩ := H
 go_enter Tryd.func12, Tryd.ntmps12
 go_wp2_with (first | ((with_reducible refine gate_dst (N := 1) rfl ?_); refine box_event (by rfl) (N := 1) (by rfl) (cs := #[.int .i64 a0_0, .int .i64 a0_1, .int .u64 a0_2, .string a0_3]) (t := 24) gS ?_; intro gb174 hg w2 hbox hb; have BK174 := as_ (hbox); have GW174 := gw hg bA; have GE174 := gw hg bA; replace HB := as_ (below_step bA hb); clear hb hbox hg) | ((with_reducible refine gate_dst (N := 2) rfl ?_); refine box_event ?hg (N := 2) ?hd (cs := #[.int .i64 0, .int .i64 0, .int .u64 0, .string (⟨#[]⟩ : ByteArray)]) (t := 32) ?hr ?_; (case hd => rfl); (case hg => rfl); (case hr => first | (go_simp; done) | (go_simp; rfl)); intro gb175 hg w3 hbox hb; have BK175 := as_ (hbox); have GW175 := gw hg bA; have GE175 := gw hg bA; have NB174_175 := nl BK174 hg; have NB175_174 := ng BK174 hg; replace BK174 := bb BK174 hb; replace HB := as_ (below_step bA hb); clear hb hbox hg; have hnb4 := NB174_175.out; have hnc4 := NB175_174.out; obtain ⟨hcz5_0, hcz5_1, hcz5_2, hcz5_3⟩ := zc4 BK174; obtain ⟨hfz5_0, hfz5_1, hfz5_2, hfz5_3⟩ := zf4 BK174; obtain ⟨hcz6_0, hcz6_1, hcz6_2, hcz6_3⟩ := zc4 BK175; obtain ⟨hfz6_0, hfz6_1, hfz6_2, hfz6_3⟩ := zf4 BK175))
 refine bodyPost_ret (results_cell_row rfl _ _ gb175 32 #[.int .i64 a0_0, .int .i64 a0_1, .int .u64 a0_2, .string a0_3] (0, 0) _ rfl (by refine bx ?_; refine blk_put (cs := #[.int .i64 a0_0, .int .i64 a0_1, .int .u64 a0_2, .string (⟨#[]⟩ : ByteArray)]) ?_ 3 _ rfl; refine bx ?_; refine blk_put (cs := #[.int .i64 a0_0, .int .i64 a0_1, .int .u64 0, .string (⟨#[]⟩ : ByteArray)]) ?_ 2 _ rfl; refine bx ?_; refine blk_put (cs := #[.int .i64 a0_0, .int .i64 0, .int .u64 0, .string (⟨#[]⟩ : ByteArray)]) ?_ 1 _ rfl; refine bx ?_; refine blk_put (cs := #[.int .i64 0, .int .i64 0, .int .u64 0, .string (⟨#[]⟩ : ByteArray)]) ?_ 0 _ rfl; refine bx ?_; exact BK175.out) Tryd.underlying32 rfl (by kernel_rfl)) rfl ?_
 exact ⟨eW, by repeat (first | (with_reducible first | exact HB.out | apply below_alloc | apply pw_below_drewN | apply below_drew1 | refine below_set ?_ GE174.out | refine below_set ?_ GE175.out) | exact HB.out)⟩

/-! ### col_integer: function 30 -/
def col_integer.l0 : Nat → ByteArray → Int → Int → Int → Option (Int × Int × Int)
 | 0, _, _, _, _ => none
 | k + 1, x0, x1, x7, x14 => if x14 < 8 then (if 0 ≤ (wrap64 (x1 + x14)) then (if (wrap64 (x1 + x14)) < (x0.size : Int) then (col_integer.l0 k x0 x1 (Go.bits .or .u64 (IntKind.u64.wrap (x7 * 256)) (IntKind.u64.wrap (bt x0 (wrap64 (x1 + x14))))) (wrap64 (x14 + 1))) else (none)) else (none)) else (some (wrap64 (Go.bits .xor .u64 x7 9223372036854775808), wrap64 (x1 + 8), 0))
def col_integer.f (k : Nat) (a0 : ByteArray) (a1 : Int) : Option (Int × Int × Int) := if (wrap64 ((a0.size : Int) - a1)) < 8 then (some (0, 0, 7)) else (col_integer.l0 k a0 a1 0 0)
theorem col_integer.mono_l : ∀ k, (∀ y0 y1 y2 y3, LeO (col_integer.l0 k y0 y1 y2 y3) (col_integer.l0 (k + 1) y0 y1 y2 y3))
 | 0 => fun _ _ _ _ r h => by simp [col_integer.l0] at h
 | k + 1 => by
  have ih0 := col_integer.mono_l k
  ·intro y0 y1 y2 y3
   unfold col_integer.l0
   repeat' first
   | (with_reducible exact ih0 _ _ _ _)
   | (with_reducible exact LeO.refl _)
   | (with_reducible exact LeO.none _)
   | (with_reducible refine LeO.ite ?_ ?_)
   | (with_reducible refine LeO.bind ?_ (fun _ => ?_))
   | exact ih0 _ _ _ _
   | exact LeO.none _
   | refine LeO.ite ?_ ?_
   | refine LeO.bind ?_ (fun _ => ?_)
theorem col_integer.mono : ∀ a0 a1 k, LeO (col_integer.f k a0 a1) (col_integer.f (k + 1) a0 a1) := by
 intro a0 a1 k
 have ih0 := col_integer.mono_l k
 unfold col_integer.f
 repeat' first
   | (with_reducible exact ih0 _ _ _ _)
   | (with_reducible exact LeO.refl _)
   | (with_reducible exact LeO.none _)
   | (with_reducible refine LeO.ite ?_ ?_)
   | (with_reducible refine LeO.bind ?_ (fun _ => ?_))
   | exact ih0 _ _ _ _
   | exact LeO.none _
   | refine LeO.ite ?_ ?_
   | refine LeO.bind ?_ (fun _ => ?_)
set_option maxHeartbeats 8000000 in
set_option maxRecDepth 100000 in
theorem col_integer.calls (k : Nat) (a0 : ByteArray) (a1 : Int) (r1 : Int) (r2 : Int) (r3 : Int) (w : World) (h : col_integer.f k a0 a1 = some (r1, r2, r3)) :
  Calls Tryd.prog 30 #[.string a0, .int .i64 a1] w fun e w' => e = .returned (.tuple #[.int .i64 r1, .int .i64 r2, .int .i64 r3]) ∧ Drawn0 w w' := by
 have H : (if (wrap64 ((a0.size : Int) - a1)) < 8 then (some (0, 0, 7)) else (col_integer.l0 k a0 a1 0 0)) = some (r1, r2, r3) := h
 clear h
 by_cases c3 : (wrap64 ((a0.size : Int) - a1)) < 8
 ·rw [if_pos c3] at H
  have c3b0 : decide ((wrap64 ((a0.size : Int) - a1)) < 8) = true := decide_eq_true c3
  clear c3
  simp only [Option.some.injEq, Prod.mk.injEq] at H
  obtain ⟨rfl, rfl, rfl⟩ := H
  go_enter Tryd.func30, Tryd.ntmps30
  go_wp2
  go_ret3
  exact ⟨by first | rfl | (simp; done) | (simp [*]; done), by repeat (first | exact Drawn0.refl _ | apply Drawn0.step)⟩
 rw [if_neg c3] at H
 have c3b0 : decide ((wrap64 ((a0.size : Int) - a1)) < 8) = false := decide_eq_false c3
 clear c3
 have H' := Aside0.mk H
 clear H
 go_enter Tryd.func30, Tryd.ntmps30
 go_wp2
 go_loopg [7, 14] k (fun kq v7 v14 w' => ∃ (x7_1 : Int) (x14_1 : Int), v7 = .int .u64 x7_1 ∧ v14 = .int .i64 x14_1 ∧ Aside0 (col_integer.l0 kq a0 a1 x7_1 x14_1 = some (r1, r2, r3)) ∧ Aside0 (kq ≤ k) ∧ Drawn0 w w')
 case atStart => exact ⟨(0), (0), (by first | rfl | (simp; done) | (simp [*]; done)), (by first | rfl | (simp; done) | (simp [*]; done)), H', ⟨Nat.le_refl _⟩, by repeat (first | exact Drawn0.refl _ | apply Drawn0.step)⟩
 case round =>
  clear H'
  try clear p2
  try clear c3
  try clear c3b0
  obtain ⟨x7_1, x14_1, rfl, rfl, HA, HK1, ⟨m1, rfl⟩⟩ := hrel
  cases gk with
  | zero => exact absurd HA.out (by simp [col_integer.l0])
  | succ k1 =>
   have H := HA.out
   clear HA
   simp only [col_integer.l0] at H
   by_cases c4 : x14_1 < 8
   rotate_left
   ·rw [if_neg c4] at H
    have c4b0 : decide (x14_1 < 8) = false := decide_eq_false c4
    clear c4
    simp only [Option.some.injEq, Prod.mk.injEq] at H
    obtain ⟨rfl, rfl, rfl⟩ := H
    go_wp2
    go_ret3
    exact ⟨by first | rfl | (simp; done) | (simp [*]; done), by repeat (first | exact Drawn0.refl _ | apply Drawn0.step)⟩
 
   rw [if_pos c4] at H
   have c4b0 : decide (x14_1 < 8) = true := decide_eq_true c4
   clear c4
   obtain ⟨ji5, hji5⟩ : ∃ j_ : Int, (wrap64 (a1 + x14_1)) = j_ := ⟨_, rfl⟩
   replace H : (if 0 ≤ (ji5) then (if (ji5) < (a0.size : Int) then (col_integer.l0 k1 a0 a1 (Go.bits .or .u64 (IntKind.u64.wrap (x7_1 * 256)) (IntKind.u64.wrap (bt a0 (ji5)))) (wrap64 (x14_1 + 1))) else (none)) else (none)) = some (r1, r2, r3) := by first | (rw [hji5] at H; exact H) | (simp only [hji5] at H ⊢; exact H)
   have hji5w : (IntKind.i64.wrap (a1 + x14_1)) = ji5 := (i64_w _).trans hji5
   by_cases c6 : 0 ≤ (ji5)
   rotate_left
   ·rw [if_neg c6] at H
    exact absurd H (by simp)
   rw [if_pos c6] at H
   have c6b0 : decide (0 ≤ (ji5)) = true := decide_eq_true c6
   clear c6
   by_cases c7 : (ji5) < (a0.size : Int)
   rotate_left
   ·rw [if_neg c7] at H
    exact absurd H (by simp)
   rw [if_pos c7] at H
   have c7b0 : decide ((ji5) < (a0.size : Int)) = true := decide_eq_true c7
   clear c7
   have H' := Aside0.mk H
   clear H
   have p8 : 0 ≤ ((ji5) : Int) := of_decide_eq_true aM
   have q8 : (ji5) < (a0.size : Int) := of_decide_eq_true aM
   have hx8 := bt_at a0 (ji5)
   replace p8 := eq_true p8
   replace q8 := eq_true q8
   go_wp2
   go_roundg k1
   case measure => have := HK1.out; omega
   case rel => exact ⟨(Go.bits .or .u64 (IntKind.u64.wrap (x7_1 * 256)) (IntKind.u64.wrap (bt a0 (ji5)))), (wrap64 (x14_1 + 1)), (by first | rfl | (simp; done) | (simp only [← hji5] <;> (first | rfl | simp)) | (simp [*]; done)), (by first | rfl | (simp; done) | (simp [*]; done)), H', ⟨by have := HK1.out; omega⟩, by repeat (first | exact Drawn0.refl _ | apply Drawn0.step)⟩
/-! ### word_more: function 44 -/
def word_more.f (a0 : Int) : Option (Int) := if a0 > 249 then (some (wrap64 ((wrap64 (a0)) - 247))) else (if a0 = 249 then (some ((0 + 1) + 1)) else (if a0 ≥ 241 then (some (0 + 1)) else (some 0)))
set_option maxHeartbeats 8000000 in
set_option maxRecDepth 100000 in
theorem word_more.calls (a0 : Int) (r : Int) (w : World) (h : word_more.f a0 = some r) :
  Calls Tryd.prog 44 #[.int .u8 a0] w fun e w' => e = .returned (.int .i64 r) ∧ Drawn0 w w' := by
 have H : (if a0 > 249 then (some (wrap64 ((wrap64 (a0)) - 247))) else (if a0 = 249 then (some ((0 + 1) + 1)) else (if a0 ≥ 241 then (some (0 + 1)) else (some 0)))) = some r := h
 clear h
 by_cases c2 : a0 > 249
 ·rw [if_pos c2] at H
  have c2b0 : decide (249 < a0) = true := decide_eq_true c2
  clear c2
  obtain rfl := Option.some.inj H
  go_enter Tryd.func44, Tryd.ntmps44
  go_wp2
  go_ret
  exact ⟨by first | rfl | (simp; done) | (simp [*]; done), by repeat (first | exact Drawn0.refl _ | apply Drawn0.step)⟩
 rw [if_neg c2] at H
 have c2b0 : decide (249 < a0) = false := decide_eq_false c2
 clear c2
 by_cases c3 : a0 = 249
 ·rw [if_pos c3] at H
  have c3b0 : (a0 == 249) = true := beq_iff_eq.mpr c3
  have c3b1 : (a0 != 249) = false := bne_eq_false_iff_eq.mpr c3
  clear c3
  obtain rfl := Option.some.inj H
  go_enter Tryd.func44, Tryd.ntmps44
  go_wp2
  go_ret
  exact ⟨by first | rfl | (simp; done) | (simp [*]; done), by repeat (first | exact Drawn0.refl _ | apply Drawn0.step)⟩
 rw [if_neg c3] at H
 have c3b0 : (a0 == 249) = false := beq_eq_false_iff_ne.mpr c3
 have c3b1 : (a0 != 249) = true := bne_iff_ne.mpr c3
 by_cases c4 : a0 ≥ 241
 ·rw [if_pos c4] at H
  have c4b0 : decide (241 ≤ a0) = true := decide_eq_true c4
  clear c4
  obtain rfl := Option.some.inj H
  go_enter Tryd.func44, Tryd.ntmps44
  go_wp2
  go_ret
  exact ⟨by first | rfl | (simp; done) | (simp [*]; done), by repeat (first | exact Drawn0.refl _ | apply Drawn0.step)⟩
 rw [if_neg c4] at H
 have c4b0 : decide (241 ≤ a0) = false := decide_eq_false c4
 clear c4
 obtain rfl := Option.some.inj H
 go_enter Tryd.func44, Tryd.ntmps44
 go_wp2
 go_ret
 exact ⟨by first | rfl | (simp; done) | (simp [*]; done), by repeat (first | exact Drawn0.refl _ | apply Drawn0.step)⟩

end Go.Proofs.YtjfgeppfkhaliaaDoor.P
