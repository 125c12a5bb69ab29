/- What is proved here: for functions of the Go text, a Lean function each, and that the call comes to just what it answers. Conditions: as each contract names them. Written by wip/tools/myprint.py, a driver of the print of the kit. -/
import Derived.Test.YtnkndnpnjbcaoaaP0
import Derived.Test.YtnkndnpnjbcaoaaP6
import Derived.Test.YtnkndnpnjbcaoaaP7
import Derived.Test.YtnkndnpnjbcaoaaWAbbr
namespace Go.Proofs.Ytnkndnpnjbcaoaa.P
open Go.RowKit Go.Proofs.YtnkndnpnjbcaoaaW.PrintWords Go.Proofs.YtnkndnpnjbcaoaaW.PrintLast Go.Proofs.YtnkndnpnjbcaoaaW.PrintMore Go.Proofs.YtnkndnpnjbcaoaaW.Abbr
-- PACKED
attribute [local go_sem] max2_int min2_int max_two min_two max_three min_three max_four min_four Go.Proofs.YtnkndnpnjbcaoaaLaws.str_leq Go.Proofs.YtnkndnpnjbcaoaaLaws.str_gtr Go.Proofs.YtnkndnpnjbcaoaaLaws.str_geq Go.Proofs.YtnkndnpnjbcaoaaLaws.max2_str Go.Proofs.YtnkndnpnjbcaoaaLaws.min2_str   -- for this text's walks alone
set_option linter.unusedVariables false
set_option linter.unusedSimpArgs false

/-! ### withyref13_Encode: function 10 -/
def withyref13_Encode.f (k : Nat) (a0_0 : Int) (a0_1 : Int) (a0_2 : Int) (a0_3 : Int) (a0_4 : Int) : Option (ByteArray × Int) := (withyref13_May.f a0_0 a0_1 a0_2 a0_3 a0_4).bind fun t180 => (if t180 = true then ((withyref01_Four.f ((a0_0) % 4294967296)).bind fun t181 => (if 5 + t181.size ≤ 9223372036854775807 then ((withyref01_Four.f ((a0_1) % 4294967296)).bind fun t182 => (if ((⟨#[119, 105, 116, 104, 121]⟩ : ByteArray) ++ t181).size + t182.size ≤ 9223372036854775807 then ((withyref01_Four.f ((a0_4) % 4294967296)).bind fun t183 => (if (((⟨#[119, 105, 116, 104, 121]⟩ : ByteArray) ++ t181) ++ t182).size + t183.size ≤ 9223372036854775807 then ((withyref01_Repeat.f k 0 (wrap64 ((wrap64 ((wrap64 (a0_0 - 16)) - 17)) - 1))).bind fun t184 => (if ((((⟨#[119, 105, 116, 104, 121]⟩ : ByteArray) ++ t181) ++ t182) ++ t183).size + t184.size ≤ 9223372036854775807 then (if (((((⟨#[119, 105, 116, 104, 121]⟩ : ByteArray) ++ t181) ++ t182) ++ t183) ++ t184).size + 1 ≤ 9223372036854775807 then ((withyref07_Seal.f k 1 a0_3 0 a0_2 0 ((((((⟨#[119, 105, 116, 104, 121]⟩ : ByteArray) ++ t181) ++ t182) ++ t183) ++ t184) ++ (⟨#[87]⟩ : ByteArray)) a0_0).bind fun bt185 => (some (bt185.1, bt185.2))) else (none)) else (none))) else (none))) else (none))) else (none))) else (some ((⟨#[]⟩ : ByteArray), 3)))
theorem withyref13_Encode.mono : ∀ a0 a1 a2 a3 a4 k, LeO (withyref13_Encode.f k a0 a1 a2 a3 a4) (withyref13_Encode.f (k + 1) a0 a1 a2 a3 a4) := by
 intro a0 a1 a2 a3 a4 k
 unfold withyref13_Encode.f
 repeat' first
   | (with_reducible exact withyref01_Repeat.mono _ _ _)
   | (with_reducible exact withyref07_Seal.mono _ _ _ _ _ _ _ _)
   | (with_reducible exact LeO.refl _)
   | (with_reducible exact LeO.none _)
   | (with_reducible refine LeO.ite ?_ ?_)
   | (with_reducible refine LeO.bind ?_ (fun _ => ?_))
   | exact withyref01_Repeat.mono _ _ _
   | exact withyref07_Seal.mono _ _ _ _ _ _ _ _
   | exact LeO.none _
   | refine LeO.ite ?_ ?_
   | refine LeO.bind ?_ (fun _ => ?_)
def withyref13_Encode.T3 : Bool × List (List Nat × List Nat) := (true, [([], []), ([0], [0]), ([1], [1]), ([2], [2]), ([3], [3]), ([], []), ([5], [5]), ([6], [6]), ([7, 3], [7]), ([4, 8], [4, 8]), ([], []), ([10], [10]), ([11], [11]), ([12, 8], [12]), ([9, 13], [9, 13]), ([14, 13, 0, 1, 2, 3, 4, 5, 6, 7, 8, 9, 10, 11, 12, 13, 14], [14])])
def withyref13_Encode.B3 : List Nat := [0, 1, 3, 7, 15, 0, 32, 96, 239, 511, 0, 1024, 3072, 7663, 16383, 32767]
theorem withyref13_Encode.tab3 : rtab .any (opsOf Try.f10 3) = withyref13_Encode.T3 := by kernel_rfl
theorem withyref13_Encode.bits3 : waitsOk withyref13_Encode.T3.2 withyref13_Encode.B3 = true := by kernel_rfl
def withyref13_Encode.T4 : Bool × List (List Nat × List Nat) := (true, [([], []), ([0], [0]), ([], []), ([2], [2]), ([1, 3], [1, 3]), ([], []), ([], []), ([6], [6]), ([7], [7]), ([8], [8]), ([9], [9]), ([10], [10]), ([5, 11], [5, 11]), ([12], [12]), ([], []), ([14], [14]), ([4, 13, 15, 11], [4, 13, 15]), ([16], [16]), ([16], [16]), ([17, 16, 0, 1, 2, 3, 4, 5, 6, 7, 8, 9, 10, 11, 12, 13, 14, 15, 16, 17, 18], [17]), ([18, 19, 0, 1, 2, 3, 4, 5, 6, 7, 8, 9, 10, 11, 12, 13, 14, 15, 16, 17, 18, 19], [18])])
def withyref13_Encode.B4 : List Nat := [0, 1, 0, 4, 15, 0, 0, 64, 192, 448, 960, 1984, 4064, 8160, 0, 16384, 65535, 131071, 131071, 524287, 1048575]
theorem withyref13_Encode.tab4 : rtab .any (opsOf Try.f10 4) = withyref13_Encode.T4 := by kernel_rfl
theorem withyref13_Encode.bits4 : waitsOk withyref13_Encode.T4.2 withyref13_Encode.B4 = true := by kernel_rfl
set_option maxHeartbeats 8000000 in
set_option maxRecDepth 100000 in
theorem withyref13_Encode.calls (k : Nat) (a0_0 : Int) (a0_1 : Int) (a0_2 : Int) (a0_3 : Int) (a0_4 : Int) (r1 : ByteArray) (r2 : Int) (w : World) (h : withyref13_Encode.f k a0_0 a0_1 a0_2 a0_3 a0_4 = some (r1, r2)) :
  Calls Try.prog 10 #[.agg #[.int .i64 a0_0, .int .i64 a0_1, .int .i64 a0_2, .int .i64 a0_3, .int .i64 a0_4]] w fun e w' => e = .returned (.tuple #[.string r1, .int .i64 r2]) ∧ Below w.heap.size w w' := by
 have hu29 := Try.underlying29
 have hu45 := Try.underlying45
 have HB := as_ (Below.refl w.heap.size w)
 have H : ((withyref13_May.f a0_0 a0_1 a0_2 a0_3 a0_4).bind fun t180 => (if t180 = true then ((withyref01_Four.f ((a0_0) % 4294967296)).bind fun t181 => (if 5 + t181.size ≤ 9223372036854775807 then ((withyref01_Four.f ((a0_1) % 4294967296)).bind fun t182 => (if ((⟨#[119, 105, 116, 104, 121]⟩ : ByteArray) ++ t181).size + t182.size ≤ 9223372036854775807 then ((withyref01_Four.f ((a0_4) % 4294967296)).bind fun t183 => (if (((⟨#[119, 105, 116, 104, 121]⟩ : ByteArray) ++ t181) ++ t182).size + t183.size ≤ 9223372036854775807 then ((withyref01_Repeat.f k 0 (wrap64 ((wrap64 ((wrap64 (a0_0 - 16)) - 17)) - 1))).bind fun t184 => (if ((((⟨#[119, 105, 116, 104, 121]⟩ : ByteArray) ++ t181) ++ t182) ++ t183).size + t184.size ≤ 9223372036854775807 then (if (((((⟨#[119, 105, 116, 104, 121]⟩ : ByteArray) ++ t181) ++ t182) ++ t183) ++ t184).size + 1 ≤ 9223372036854775807 then ((withyref07_Seal.f k 1 a0_3 0 a0_2 0 ((((((⟨#[119, 105, 116, 104, 121]⟩ : ByteArray) ++ t181) ++ t182) ++ t183) ++ t184) ++ (⟨#[87]⟩ : ByteArray)) a0_0).bind fun bt185 => (some (bt185.1, bt185.2))) else (none)) else (none))) else (none))) else (none))) else (none))) else (some ((⟨#[]⟩ : ByteArray), 3)))) = some (r1, r2) := h
 clear h
 replace H := bM H
 obtain ⟨t180, A20, H⟩ := H
 replace H : (if t180 = true then ((withyref01_Four.f ((a0_0) % 4294967296)).bind fun t181 => (if 5 + t181.size ≤ 9223372036854775807 then ((withyref01_Four.f ((a0_1) % 4294967296)).bind fun t182 => (if ((⟨#[119, 105, 116, 104, 121]⟩ : ByteArray) ++ t181).size + t182.size ≤ 9223372036854775807 then ((withyref01_Four.f ((a0_4) % 4294967296)).bind fun t183 => (if (((⟨#[119, 105, 116, 104, 121]⟩ : ByteArray) ++ t181) ++ t182).size + t183.size ≤ 9223372036854775807 then ((withyref01_Repeat.f k 0 (wrap64 ((wrap64 ((wrap64 (a0_0 - 16)) - 17)) - 1))).bind fun t184 => (if ((((⟨#[119, 105, 116, 104, 121]⟩ : ByteArray) ++ t181) ++ t182) ++ t183).size + t184.size ≤ 9223372036854775807 then (if (((((⟨#[119, 105, 116, 104, 121]⟩ : ByteArray) ++ t181) ++ t182) ++ t183) ++ t184).size + 1 ≤ 9223372036854775807 then ((withyref07_Seal.f k 1 a0_3 0 a0_2 0 ((((((⟨#[119, 105, 116, 104, 121]⟩ : ByteArray) ++ t181) ++ t182) ++ t183) ++ t184) ++ (⟨#[87]⟩ : ByteArray)) a0_0).bind fun bt185 => (some (bt185.1, bt185.2))) else (none)) else (none))) else (none))) else (none))) else (none))) else (some ((⟨#[]⟩ : ByteArray), 3))) = some (r1, r2) := H
 have A2 := Aside0.mk A20
 clear A20
 by_cases c3 : t180 = true
 rotate_left
 ·replace c3 := Bool.eq_false_iff.mpr c3
  subst c3
  have H1 : (some ((⟨#[]⟩ : ByteArray), 3)) = some (r1, r2) := by rw [if_neg (show ¬ (false = true) by decide)] at H; exact H
  clear H
  have H := H1
  clear H1
  simp only [Option.some.injEq, Prod.mk.injEq] at H
  obtain ⟨rfl, rfl⟩ := H
  go_enter Try.func10, Try.ntmps10
  go_wp2_with (first | ((with_reducible refine gate_dst (N := 1) rfl ?_); refine box_event (by rfl) (N := 1) (by rfl) (cs := #[.int .i64 a0_0, .int .i64 a0_1, .int .i64 a0_2, .int .i64 a0_3, .int .i64 a0_4]) (t := 29) gS ?_; intro gb179 hg w29 hbox hb; have BK179 := as_ (hbox); have GW179 := gw hg bA; have GE179 := gw hg bA; replace HB := as_ (below_step bA hb); clear hb hbox hg; obtain ⟨hcz30_0, hcz30_1, hcz30_2, hcz30_3, hcz30_4⟩ := zc5 BK179; obtain ⟨hfz30_0, hfz30_1, hfz30_2, hfz30_3, hfz30_4⟩ := zf5 BK179) | ((with_reducible refine gate_callee (f := 15) rfl ?_); refine goesL_ (some 6) rfl rfl Try.func15 (by kernel_rfl) rfl #[.agg #[.int .i64 a0_0, .int .i64 a0_1, .int .i64 a0_2, .int .i64 a0_3, .int .i64 a0_4]] rfl aO ?_; (with_reducible refine (withyref13_May.calls a0_0 a0_1 a0_2 a0_3 a0_4 false _ A2.out).mono ?_); rintro e w31 ⟨rfl, hb⟩; refine ⟨_, rfl, ?_⟩; replace BK179 := bb BK179 hb; replace HB := as_ (below_step bA hb); (try clear hb); (try clear hb2); (try clear hk); (try clear hi)))
  go_ret2
  exact ⟨eW, by repeat (first | (with_reducible first | exact HB.out | apply below_alloc | apply pw_below_drewN | apply below_drew1 | refine below_set ?_ GE179.out) | exact HB.out)⟩
 
 subst c3
 have H1 : ((withyref01_Four.f ((a0_0) % 4294967296)).bind fun t181 => (if 5 + t181.size ≤ 9223372036854775807 then ((withyref01_Four.f ((a0_1) % 4294967296)).bind fun t182 => (if ((⟨#[119, 105, 116, 104, 121]⟩ : ByteArray) ++ t181).size + t182.size ≤ 9223372036854775807 then ((withyref01_Four.f ((a0_4) % 4294967296)).bind fun t183 => (if (((⟨#[119, 105, 116, 104, 121]⟩ : ByteArray) ++ t181) ++ t182).size + t183.size ≤ 9223372036854775807 then ((withyref01_Repeat.f k 0 (wrap64 ((wrap64 ((wrap64 (a0_0 - 16)) - 17)) - 1))).bind fun t184 => (if ((((⟨#[119, 105, 116, 104, 121]⟩ : ByteArray) ++ t181) ++ t182) ++ t183).size + t184.size ≤ 9223372036854775807 then (if (((((⟨#[119, 105, 116, 104, 121]⟩ : ByteArray) ++ t181) ++ t182) ++ t183) ++ t184).size + 1 ≤ 9223372036854775807 then ((withyref07_Seal.f k 1 a0_3 0 a0_2 0 ((((((⟨#[119, 105, 116, 104, 121]⟩ : ByteArray) ++ t181) ++ t182) ++ t183) ++ t184) ++ (⟨#[87]⟩ : ByteArray)) a0_0).bind fun bt185 => (some (bt185.1, bt185.2))) else (none)) else (none))) else (none))) else (none))) else (none))) = some (r1, r2) := by rw [if_pos rfl] at H; exact H
 clear H
 have H := H1
 clear H1
 replace H := bM H
 obtain ⟨t181, A40, H⟩ := H
 replace H : (if 5 + t181.size ≤ 9223372036854775807 then ((withyref01_Four.f ((a0_1) % 4294967296)).bind fun t182 => (if ((⟨#[119, 105, 116, 104, 121]⟩ : ByteArray) ++ t181).size + t182.size ≤ 9223372036854775807 then ((withyref01_Four.f ((a0_4) % 4294967296)).bind fun t183 => (if (((⟨#[119, 105, 116, 104, 121]⟩ : ByteArray) ++ t181) ++ t182).size + t183.size ≤ 9223372036854775807 then ((withyref01_Repeat.f k 0 (wrap64 ((wrap64 ((wrap64 (a0_0 - 16)) - 17)) - 1))).bind fun t184 => (if ((((⟨#[119, 105, 116, 104, 121]⟩ : ByteArray) ++ t181) ++ t182) ++ t183).size + t184.size ≤ 9223372036854775807 then (if (((((⟨#[119, 105, 116, 104, 121]⟩ : ByteArray) ++ t181) ++ t182) ++ t183) ++ t184).size + 1 ≤ 9223372036854775807 then ((withyref07_Seal.f k 1 a0_3 0 a0_2 0 ((((((⟨#[119, 105, 116, 104, 121]⟩ : ByteArray) ++ t181) ++ t182) ++ t183) ++ t184) ++ (⟨#[87]⟩ : ByteArray)) a0_0).bind fun bt185 => (some (bt185.1, bt185.2))) else (none)) else (none))) else (none))) else (none))) else (none)) = some (r1, r2) := H
 have A4 := Aside0.mk A40
 clear A40
 by_cases c5 : 5 + t181.size ≤ 9223372036854775807
 rotate_left
 ·rw [if_neg c5] at H
  exact absurd H (by simp)
 rw [if_pos c5] at H
 have c5b0 := eq_true c5
 have c5b1 : decide (5 + t181.size ≤ 9223372036854775807) = true := decide_eq_true c5
 try have c5b2 : (9223372036854775807 < 5 + t181.size) = False := eq_false (Nat.not_lt.2 c5)
 obtain ⟨js6, hjs6⟩ : ∃ j_ : ByteArray, ((⟨#[119, 105, 116, 104, 121]⟩ : ByteArray) ++ t181) = j_ := ⟨_, rfl⟩
 replace H : ((withyref01_Four.f ((a0_1) % 4294967296)).bind fun t182 => (if (js6).size + t182.size ≤ 9223372036854775807 then ((withyref01_Four.f ((a0_4) % 4294967296)).bind fun t183 => (if ((js6) ++ t182).size + t183.size ≤ 9223372036854775807 then ((withyref01_Repeat.f k 0 (wrap64 ((wrap64 ((wrap64 (a0_0 - 16)) - 17)) - 1))).bind fun t184 => (if (((js6) ++ t182) ++ t183).size + t184.size ≤ 9223372036854775807 then (if ((((js6) ++ t182) ++ t183) ++ t184).size + 1 ≤ 9223372036854775807 then ((withyref07_Seal.f k 1 a0_3 0 a0_2 0 (((((js6) ++ t182) ++ t183) ++ t184) ++ (⟨#[87]⟩ : ByteArray)) a0_0).bind fun bt185 => (some (bt185.1, bt185.2))) else (none)) else (none))) else (none))) else (none))) = some (r1, r2) := by first | (rw [hjs6] at H; exact H) | (simp only [hjs6] at H ⊢; exact H)
 (try rw [hjs6] at A2)
 (try rw [hjs6] at A4)
 replace H := bM H
 obtain ⟨t182, A70, H⟩ := H
 replace H : (if (js6).size + t182.size ≤ 9223372036854775807 then ((withyref01_Four.f ((a0_4) % 4294967296)).bind fun t183 => (if ((js6) ++ t182).size + t183.size ≤ 9223372036854775807 then ((withyref01_Repeat.f k 0 (wrap64 ((wrap64 ((wrap64 (a0_0 - 16)) - 17)) - 1))).bind fun t184 => (if (((js6) ++ t182) ++ t183).size + t184.size ≤ 9223372036854775807 then (if ((((js6) ++ t182) ++ t183) ++ t184).size + 1 ≤ 9223372036854775807 then ((withyref07_Seal.f k 1 a0_3 0 a0_2 0 (((((js6) ++ t182) ++ t183) ++ t184) ++ (⟨#[87]⟩ : ByteArray)) a0_0).bind fun bt185 => (some (bt185.1, bt185.2))) else (none)) else (none))) else (none))) else (none)) = some (r1, r2) := H
 have A7 := Aside0.mk A70
 clear A70
 by_cases c8 : (js6).size + t182.size ≤ 9223372036854775807
 rotate_left
 ·rw [if_neg c8] at H
  exact absurd H (by simp)
 rw [if_pos c8] at H
 have c8b0 := eq_true c8
 have c8b1 : decide ((js6).size + t182.size ≤ 9223372036854775807) = true := decide_eq_true c8
 try have c8b2 : (9223372036854775807 < (js6).size + t182.size) = False := eq_false (Nat.not_lt.2 c8)
 obtain ⟨js9, hjs9⟩ : ∃ j_ : ByteArray, ((js6) ++ t182) = j_ := ⟨_, rfl⟩
 replace H : ((withyref01_Four.f ((a0_4) % 4294967296)).bind fun t183 => (if (js9).size + t183.size ≤ 9223372036854775807 then ((withyref01_Repeat.f k 0 (wrap64 ((wrap64 ((wrap64 (a0_0 - 16)) - 17)) - 1))).bind fun t184 => (if ((js9) ++ t183).size + t184.size ≤ 9223372036854775807 then (if (((js9) ++ t183) ++ t184).size + 1 ≤ 9223372036854775807 then ((withyref07_Seal.f k 1 a0_3 0 a0_2 0 ((((js9) ++ t183) ++ t184) ++ (⟨#[87]⟩ : ByteArray)) a0_0).bind fun bt185 => (some (bt185.1, bt185.2))) else (none)) else (none))) else (none))) = some (r1, r2) := by first | (rw [hjs9] at H; exact H) | (simp only [hjs9] at H ⊢; exact H)
 (try rw [hjs9] at A2)
 (try rw [hjs9] at A4)
 (try rw [hjs9] at A7)
 replace H := bM H
 obtain ⟨t183, A100, H⟩ := H
 replace H : (if (js9).size + t183.size ≤ 9223372036854775807 then ((withyref01_Repeat.f k 0 (wrap64 ((wrap64 ((wrap64 (a0_0 - 16)) - 17)) - 1))).bind fun t184 => (if ((js9) ++ t183).size + t184.size ≤ 9223372036854775807 then (if (((js9) ++ t183) ++ t184).size + 1 ≤ 9223372036854775807 then ((withyref07_Seal.f k 1 a0_3 0 a0_2 0 ((((js9) ++ t183) ++ t184) ++ (⟨#[87]⟩ : ByteArray)) a0_0).bind fun bt185 => (some (bt185.1, bt185.2))) else (none)) else (none))) else (none)) = some (r1, r2) := H
 have A10 := Aside0.mk A100
 clear A100
 by_cases c11 : (js9).size + t183.size ≤ 9223372036854775807
 rotate_left
 ·rw [if_neg c11] at H
  exact absurd H (by simp)
 rw [if_pos c11] at H
 have c11b0 := eq_true c11
 have c11b1 : decide ((js9).size + t183.size ≤ 9223372036854775807) = true := decide_eq_true c11
 try have c11b2 : (9223372036854775807 < (js9).size + t183.size) = False := eq_false (Nat.not_lt.2 c11)
 obtain ⟨js12, hjs12⟩ : ∃ j_ : ByteArray, ((js9) ++ t183) = j_ := ⟨_, rfl⟩
 replace H : ((withyref01_Repeat.f k 0 (wrap64 ((wrap64 ((wrap64 (a0_0 - 16)) - 17)) - 1))).bind fun t184 => (if (js12).size + t184.size ≤ 9223372036854775807 then (if ((js12) ++ t184).size + 1 ≤ 9223372036854775807 then ((withyref07_Seal.f k 1 a0_3 0 a0_2 0 (((js12) ++ t184) ++ (⟨#[87]⟩ : ByteArray)) a0_0).bind fun bt185 => (some (bt185.1, bt185.2))) else (none)) else (none))) = some (r1, r2) := by first | (rw [hjs12] at H; exact H) | (simp only [hjs12] at H ⊢; exact H)
 (try rw [hjs12] at A2)
 (try rw [hjs12] at A4)
 (try rw [hjs12] at A7)
 (try rw [hjs12] at A10)
 replace H := bM H
 obtain ⟨t184, A130, H⟩ := H
 replace H : (if (js12).size + t184.size ≤ 9223372036854775807 then (if ((js12) ++ t184).size + 1 ≤ 9223372036854775807 then ((withyref07_Seal.f k 1 a0_3 0 a0_2 0 (((js12) ++ t184) ++ (⟨#[87]⟩ : ByteArray)) a0_0).bind fun bt185 => (some (bt185.1, bt185.2))) else (none)) else (none)) = some (r1, r2) := H
 have A13 := Aside0.mk A130
 clear A130
 by_cases c14 : (js12).size + t184.size ≤ 9223372036854775807
 rotate_left
 ·rw [if_neg c14] at H
  exact absurd H (by simp)
 rw [if_pos c14] at H
 have c14b0 := eq_true c14
 have c14b1 : decide ((js12).size + t184.size ≤ 9223372036854775807) = true := decide_eq_true c14
 try have c14b2 : (9223372036854775807 < (js12).size + t184.size) = False := eq_false (Nat.not_lt.2 c14)
 obtain ⟨js15, hjs15⟩ : ∃ j_ : ByteArray, ((js12) ++ t184) = j_ := ⟨_, rfl⟩
 replace H : (if (js15).size + 1 ≤ 9223372036854775807 then ((withyref07_Seal.f k 1 a0_3 0 a0_2 0 ((js15) ++ (⟨#[87]⟩ : ByteArray)) a0_0).bind fun bt185 => (some (bt185.1, bt185.2))) else (none)) = some (r1, r2) := by first | (rw [hjs15] at H; exact H) | (simp only [hjs15] at H ⊢; exact H)
 (try rw [hjs15] at A2)
 (try rw [hjs15] at A4)
 (try rw [hjs15] at A7)
 (try rw [hjs15] at A10)
 (try rw [hjs15] at A13)
 by_cases c16 : (js15).size + 1 ≤ 9223372036854775807
 rotate_left
 ·rw [if_neg c16] at H
  exact absurd H (by simp)
 rw [if_pos c16] at H
 have c16b0 := eq_true c16
 have c16b1 : decide ((js15).size + 1 ≤ 9223372036854775807) = true := decide_eq_true c16
 try have c16b2 : (9223372036854775807 < (js15).size + 1) = False := eq_false (Nat.not_lt.2 c16)
 obtain ⟨js17, hjs17⟩ : ∃ j_ : ByteArray, ((js15) ++ (⟨#[87]⟩ : ByteArray)) = j_ := ⟨_, rfl⟩
 replace H : ((withyref07_Seal.f k 1 a0_3 0 a0_2 0 (js17) a0_0).bind fun bt185 => (some (bt185.1, bt185.2))) = some (r1, r2) := by first | (rw [hjs17] at H; exact H) | (simp only [hjs17] at H ⊢; exact H)
 (try rw [hjs17] at A2)
 (try rw [hjs17] at A4)
 (try rw [hjs17] at A7)
 (try rw [hjs17] at A10)
 (try rw [hjs17] at A13)
 replace H := bM H
 obtain ⟨⟨t185, t186⟩, A180, H⟩ := H
 replace H : (some (t185, t186)) = some (r1, r2) := H
 have A18 := Aside0.mk A180
 clear A180
 simp only [Option.some.injEq, Prod.mk.injEq] at H
 obtain ⟨rfl, rfl⟩ := H
 go_enter Try.func10, Try.ntmps10
 try go_wp2_with (first | ((with_reducible refine gate_dst (N := 1) rfl ?_); refine box_event (by rfl) (N := 1) (by rfl) (cs := #[.int .i64 a0_0, .int .i64 a0_1, .int .i64 a0_2, .int .i64 a0_3, .int .i64 a0_4]) (t := 29) gS ?_; intro gb179 hg w19 hbox hb; have BK179 := as_ (hbox); have GW179 := gw hg bA; have GE179 := gw hg bA; replace HB := as_ (below_step bA hb); clear hb hbox hg; obtain ⟨hcz20_0, hcz20_1, hcz20_2, hcz20_3, hcz20_4⟩ := zc5 BK179; obtain ⟨hfz20_0, hfz20_1, hfz20_2, hfz20_3, hfz20_4⟩ := zf5 BK179) | ((with_reducible refine gate_callee (f := 15) rfl ?_); refine goesL_ (some 6) rfl rfl Try.func15 (by kernel_rfl) rfl #[.agg #[.int .i64 a0_0, .int .i64 a0_1, .int .i64 a0_2, .int .i64 a0_3, .int .i64 a0_4]] rfl aO ?_; (with_reducible refine (withyref13_May.calls a0_0 a0_1 a0_2 a0_3 a0_4 true _ A2.out).mono ?_); rintro e w21 ⟨rfl, hb⟩; refine ⟨_, rfl, ?_⟩; replace BK179 := bb BK179 hb; replace HB := as_ (below_step bA hb); (try clear hb); (try clear hb2); (try clear hk); (try clear hi)))
 replace BK179 := as_ (blk_drew BK179.out)
 replace HB := as_ (below_drew1 HB.out)
 refine start_ (n := 16) (S := fun w' => w'.cell? ⟨gb179, 0, none⟩ = some (.int .i64 a0_0) ∧ w'.cell? ⟨gb179, 1, none⟩ = some (.int .i64 a0_1) ∧ w'.cell? ⟨gb179, 2, none⟩ = some (.int .i64 a0_2) ∧ w'.cell? ⟨gb179, 3, none⟩ = some (.int .i64 a0_3) ∧ w'.cell? ⟨gb179, 4, none⟩ = some (.int .i64 a0_4)) (ds := []) #[ff, ff, ff, ff, ff, ff, ff, ff, ff, ff, ff, ff, ff, ff, ff, ff] (by kernel_rfl) rfl rfl ⟨(blk_cell BK179.out 0).trans rfl, (blk_cell BK179.out 1).trans rfl, (blk_cell BK179.out 2).trans rfl, (blk_cell BK179.out 3).trans rfl, (blk_cell BK179.out 4).trans rfl⟩ (fun hHeld => ?_); refine with_tabW withyref13_Encode.tab3 withyref13_Encode.bits3 (fun HT_ HW_ => ?_)
 generalize w21.drew = w22 at BK179 HB hHeld ⊢
 refine pure_ (i := 0) (N := some 8) (v := ?_) (a' := ?_) #[tt, ff, ff, ff, ff, ff, ff, ff, ff, ff, ff, ff, ff, ff, ff, ff] rfl rfl (any_of HT_.out (by kernel_rfl)) (fun _ _ _ h => h) (Or.inl ⟨by rfl, ?_⟩) ?_ ?_
 rotate_left
 ·intro w'
  go_simp
  with_reducible rfl
 rotate_left
 ·exact aP
 refine pure_ (i := 5) (N := some 13) (v := ?_) (a' := ?_) #[tt, ff, ff, ff, ff, tt, ff, ff, ff, ff, ff, ff, ff, ff, ff, ff] rfl rfl (any_of HT_.out (by kernel_rfl)) (fun _ _ _ h => h) (Or.inl ⟨by rfl, ?_⟩) ?_ ?_
 rotate_left
 ·intro w'
  go_simp
  with_reducible rfl
 rotate_left
 ·exact aP
 refine pure_ (i := 10) (N := some 18) (v := ?_) (a' := ?_) #[tt, ff, ff, ff, ff, tt, ff, ff, ff, ff, tt, ff, ff, ff, ff, ff] rfl rfl (any_of HT_.out (by kernel_rfl)) (fun _ _ _ h => h) (Or.inl ⟨by rfl, ?_⟩) ?_ ?_
 rotate_left
 ·intro w'
  go_simp
  with_reducible rfl
 rotate_left
 ·exact aP
 refine take_ (i := 1) (N := some 9) (v := ?_) (a' := ?_) #[tt, tt, ff, ff, ff, tt, ff, ff, ff, ff, tt, ff, ff, ff, ff, ff] rfl rfl (take_ofW HT_.out HW_.out (by kernel_rfl)) (fun _ _ _ h => h) (Or.inl ⟨by rfl, ?_⟩) hHeld ?_ ?_
 rotate_left
 ·rintro w' ⟨s0, s1, s2, s3, s4⟩
  go_simp
  with_reducible rfl
 rotate_left
 ·exact aP
 refine pure_ (i := 2) (N := some 10) (v := ?_) (a' := ?_) #[tt, tt, tt, ff, ff, tt, ff, ff, ff, ff, tt, ff, ff, ff, ff, ff] rfl rfl (any_of HT_.out (by kernel_rfl)) (fun _ _ _ h => h) (Or.inl ⟨by rfl, ?_⟩) ?_ ?_
 rotate_left
 ·intro w'
  go_simp
  with_reducible rfl
 rotate_left
 ·exact aP
 refine take_ (i := 6) (N := some 14) (v := ?_) (a' := ?_) #[tt, tt, tt, ff, ff, tt, tt, ff, ff, ff, tt, ff, ff, ff, ff, ff] rfl rfl (take_ofW HT_.out HW_.out (by kernel_rfl)) (fun _ _ _ h => h) (Or.inl ⟨by rfl, ?_⟩) hHeld ?_ ?_
 rotate_left
 ·rintro w' ⟨s0, s1, s2, s3, s4⟩
  go_simp
  with_reducible rfl
 rotate_left
 ·exact aP
 refine pure_ (i := 7) (N := some 15) (v := ?_) (a' := ?_) #[tt, tt, tt, ff, ff, tt, tt, tt, ff, ff, tt, ff, ff, ff, ff, ff] rfl rfl (any_of HT_.out (by kernel_rfl)) (fun _ _ _ h => h) (Or.inl ⟨by rfl, ?_⟩) ?_ ?_
 rotate_left
 ·intro w'
  go_simp
  with_reducible rfl
 rotate_left
 ·exact aP
 refine take_ (i := 11) (N := some 19) (v := ?_) (a' := ?_) #[tt, tt, tt, ff, ff, tt, tt, tt, ff, ff, tt, tt, ff, ff, ff, ff] rfl rfl (take_ofW HT_.out HW_.out (by kernel_rfl)) (fun _ _ _ h => h) (Or.inl ⟨by rfl, ?_⟩) hHeld ?_ ?_
 rotate_left
 ·rintro w' ⟨s0, s1, s2, s3, s4⟩
  go_simp
  with_reducible rfl
 rotate_left
 ·exact aP
 refine pure_ (i := 12) (N := some 20) (v := ?_) (a' := ?_) #[tt, tt, tt, ff, ff, tt, tt, tt, ff, ff, tt, tt, tt, ff, ff, ff] rfl rfl (any_of HT_.out (by kernel_rfl)) (fun _ _ _ h => h) (Or.inl ⟨by rfl, ?_⟩) ?_ ?_
 rotate_left
 ·intro w'
  go_simp
  with_reducible rfl
 rotate_left
 ·exact aP
 refine one_ (i := 3) (N := some 11) #[tt, tt, tt, tt, ff, tt, tt, tt, ff, ff, tt, tt, tt, ff, ff, ff] rfl rfl (one_of HT_.out (by kernel_rfl)) (by decide) (fun K hK => ?_)
 refine goes_ Try.func26 (by kernel_rfl) rfl #[.int .u32 ((a0_0) % 4294967296)] (by rfl) rfl rfl aO ?_
 with_reducible refine (withyref01_Four.calls ((a0_0) % 4294967296) t181 _ A4.out).mono ?_
 rintro e w23 ⟨rfl, hb⟩
 refine ⟨_, rfl, ?_⟩
 replace BK179 := bb BK179 hb
 replace HB := as_ (below_step bA hb)
 (try clear hb)
 (try clear hb2)
 (try clear hk)
 (try clear hi)
 refine hK.out _ _ ⟨(blk_cell BK179.out 0).trans rfl, (blk_cell BK179.out 1).trans rfl, (blk_cell BK179.out 2).trans rfl, (blk_cell BK179.out 3).trans rfl, (blk_cell BK179.out 4).trans rfl⟩ (fun hHeld => ?_)
 clear hK K
 refine norm_ (a' := ?_) ?_ ?_
 rotate_left
 ·show Act.put _ (some 11) _ = _
  simp only [Act.put, List.setIfInBounds_toArray, List.set_cons_zero, List.set_cons_succ, i64_w, i32_w]
  rfl
 refine pure_ (i := 4) (N := some 12) (v := ?_) (a' := ?_) #[tt, tt, tt, tt, tt, tt, tt, tt, ff, ff, tt, tt, tt, ff, ff, ff] rfl rfl (any_of HT_.out (by kernel_rfl)) (fun _ _ _ h => h) (Or.inl ⟨by rfl, ?_⟩) ?_ ?_
 rotate_left
 ·intro w'
  go_simp
  with_reducible rfl
 rotate_left
 ·exact aP
 refine one_ (i := 8) (N := some 16) #[tt, tt, tt, tt, tt, tt, tt, tt, tt, ff, tt, tt, tt, ff, ff, ff] rfl rfl (one_of HT_.out (by kernel_rfl)) (by decide) (fun K hK => ?_)
 refine goes_ Try.func26 (by kernel_rfl) rfl #[.int .u32 ((a0_1) % 4294967296)] (by rfl) rfl rfl aO ?_
 with_reducible refine (withyref01_Four.calls ((a0_1) % 4294967296) t182 _ A7.out).mono ?_
 rintro e w24 ⟨rfl, hb⟩
 refine ⟨_, rfl, ?_⟩
 replace BK179 := bb BK179 hb
 replace HB := as_ (below_step bA hb)
 (try clear hb)
 (try clear hb2)
 (try clear hk)
 (try clear hi)
 refine hK.out _ _ ⟨(blk_cell BK179.out 0).trans rfl, (blk_cell BK179.out 1).trans rfl, (blk_cell BK179.out 2).trans rfl, (blk_cell BK179.out 3).trans rfl, (blk_cell BK179.out 4).trans rfl⟩ (fun hHeld => ?_)
 clear hK K
 refine norm_ (a' := ?_) ?_ ?_
 rotate_left
 ·show Act.put _ (some 16) _ = _
  simp only [Act.put, List.setIfInBounds_toArray, List.set_cons_zero, List.set_cons_succ, i64_w, i32_w]
  rfl
 refine pure_ (i := 9) (N := some 17) (v := ?_) (a' := ?_) #[tt, tt, tt, tt, tt, tt, tt, tt, tt, tt, tt, tt, tt, ff, ff, ff] rfl rfl (any_of HT_.out (by kernel_rfl)) (fun _ _ _ h => h) (Or.inl ⟨by rfl, ?_⟩) ?_ ?_
 rotate_left
 ·intro w'
  go_simp
  with_reducible rfl
 rotate_left
 ·exact aP
 refine one_ (i := 13) (N := some 21) #[tt, tt, tt, tt, tt, tt, tt, tt, tt, tt, tt, tt, tt, tt, ff, ff] rfl rfl (one_of HT_.out (by kernel_rfl)) (by decide) (fun K hK => ?_)
 refine goes_ Try.func26 (by kernel_rfl) rfl #[.int .u32 ((a0_4) % 4294967296)] (by rfl) rfl rfl aO ?_
 with_reducible refine (withyref01_Four.calls ((a0_4) % 4294967296) t183 _ A10.out).mono ?_
 rintro e w25 ⟨rfl, hb⟩
 refine ⟨_, rfl, ?_⟩
 replace BK179 := bb BK179 hb
 replace HB := as_ (below_step bA hb)
 (try clear hb)
 (try clear hb2)
 (try clear hk)
 (try clear hi)
 refine hK.out _ _ ⟨(blk_cell BK179.out 0).trans rfl, (blk_cell BK179.out 1).trans rfl, (blk_cell BK179.out 2).trans rfl, (blk_cell BK179.out 3).trans rfl, (blk_cell BK179.out 4).trans rfl⟩ (fun hHeld => ?_)
 clear hK K
 refine norm_ (a' := ?_) ?_ ?_
 rotate_left
 ·show Act.put _ (some 21) _ = _
  simp only [Act.put, List.setIfInBounds_toArray, List.set_cons_zero, List.set_cons_succ, i64_w, i32_w]
  rfl
 refine pure_ (i := 14) (N := some 22) (v := ?_) (a' := ?_) #[tt, tt, tt, tt, tt, tt, tt, tt, tt, tt, tt, tt, tt, tt, tt, ff] rfl rfl (any_of HT_.out (by kernel_rfl)) (fun _ _ _ h => h) (Or.inl ⟨by rfl, ?_⟩) ?_ ?_
 rotate_left
 ·intro w'
  go_simp
  with_reducible rfl
 rotate_left
 ·exact aP
 refine pure_ (i := 15) (N := some 4) (v := ?_) (a' := ?_) #[tt, tt, tt, tt, tt, tt, tt, tt, tt, tt, tt, tt, tt, tt, tt, tt] rfl rfl (any_of HT_.out (by kernel_rfl)) (fun _ _ _ h => h) (Or.inl ⟨by rfl, ?_⟩) ?_ ?_
 rotate_left
 ·intro w'
  go_simp
  with_reducible rfl
 rotate_left
 ·exact aP
 refine done_ (done_of HT_.out (by kernel_rfl)) ?_
 try go_wp2
 replace BK179 := as_ (blk_drew BK179.out)
 replace HB := as_ (below_drew1 HB.out)
 refine start_ (n := 21) (S := fun w' => w'.cell? ⟨gb179, 0, none⟩ = some (.int .i64 a0_0) ∧ w'.cell? ⟨gb179, 1, none⟩ = some (.int .i64 a0_1) ∧ w'.cell? ⟨gb179, 2, none⟩ = some (.int .i64 a0_2) ∧ w'.cell? ⟨gb179, 3, none⟩ = some (.int .i64 a0_3) ∧ w'.cell? ⟨gb179, 4, none⟩ = some (.int .i64 a0_4)) (ds := []) #[ff, ff, ff, ff, ff, ff, ff, ff, ff, ff, ff, ff, ff, ff, ff, ff, ff, ff, ff, ff, ff] (by kernel_rfl) rfl rfl ⟨(blk_cell BK179.out 0).trans rfl, (blk_cell BK179.out 1).trans rfl, (blk_cell BK179.out 2).trans rfl, (blk_cell BK179.out 3).trans rfl, (blk_cell BK179.out 4).trans rfl⟩ (fun hHeld => ?_); refine with_tabW withyref13_Encode.tab4 withyref13_Encode.bits4 (fun HT_ HW_ => ?_)
 generalize w25.drew = w26 at BK179 HB hHeld ⊢
 refine pure_ (i := 0) (N := some 23) (v := ?_) (a' := ?_) #[tt, ff, ff, ff, ff, ff, ff, ff, ff, ff, ff, ff, ff, ff, ff, ff, ff, ff, ff, ff, ff] rfl rfl (any_of HT_.out (by kernel_rfl)) (fun _ _ _ h => h) (Or.inl ⟨by rfl, ?_⟩) ?_ ?_
 rotate_left
 ·intro w'
  go_simp
  with_reducible rfl
 rotate_left
 ·exact aP
 refine pure_ (i := 2) (N := some 25) (v := ?_) (a' := ?_) #[tt, ff, tt, ff, ff, ff, ff, ff, ff, ff, ff, ff, ff, ff, ff, ff, ff, ff, ff, ff, ff] rfl rfl (any_of HT_.out (by kernel_rfl)) (fun _ _ _ h => h) (Or.inl ⟨by rfl, ?_⟩) ?_ ?_
 rotate_left
 ·intro w'
  go_simp
  with_reducible rfl
 rotate_left
 ·exact aP
 refine pure_ (i := 5) (N := some 28) (v := ?_) (a' := ?_) #[tt, ff, tt, ff, ff, tt, ff, ff, ff, ff, ff, ff, ff, ff, ff, ff, ff, ff, ff, ff, ff] rfl rfl (any_of HT_.out (by kernel_rfl)) (fun _ _ _ h => h) (Or.inl ⟨by rfl, ?_⟩) ?_ ?_
 rotate_left
 ·intro w'
  go_simp
  with_reducible rfl
 rotate_left
 ·exact aP
 refine pure_ (i := 6) (N := some 29) (v := ?_) (a' := ?_) #[tt, ff, tt, ff, ff, tt, tt, ff, ff, ff, ff, ff, ff, ff, ff, ff, ff, ff, ff, ff, ff] rfl rfl (any_of HT_.out (by kernel_rfl)) (fun _ _ _ h => h) (Or.inl ⟨by rfl, ?_⟩) ?_ ?_
 rotate_left
 ·intro w'
  go_simp
  with_reducible rfl
 rotate_left
 ·exact aP
 refine pure_ (i := 14) (N := some 37) (v := ?_) (a' := ?_) #[tt, ff, tt, ff, ff, tt, tt, ff, ff, ff, ff, ff, ff, ff, tt, ff, ff, ff, ff, ff, ff] rfl rfl (any_of HT_.out (by kernel_rfl)) (fun _ _ _ h => h) (Or.inl ⟨by rfl, ?_⟩) ?_ ?_
 rotate_left
 ·intro w'
  go_simp
  with_reducible rfl
 rotate_left
 ·exact aP
 refine take_ (i := 1) (N := some 24) (v := ?_) (a' := ?_) #[tt, tt, tt, ff, ff, tt, tt, ff, ff, ff, ff, ff, ff, ff, tt, ff, ff, ff, ff, ff, ff] rfl rfl (take_ofW HT_.out HW_.out (by kernel_rfl)) (fun _ _ _ h => h) (Or.inl ⟨by rfl, ?_⟩) hHeld ?_ ?_
 rotate_left
 ·rintro w' ⟨s0, s1, s2, s3, s4⟩
  go_simp
  with_reducible rfl
 rotate_left
 ·exact aP
 refine take_ (i := 3) (N := some 26) (v := ?_) (a' := ?_) #[tt, tt, tt, tt, ff, tt, tt, ff, ff, ff, ff, ff, ff, ff, tt, ff, ff, ff, ff, ff, ff] rfl rfl (take_ofW HT_.out HW_.out (by kernel_rfl)) (fun _ _ _ h => h) (Or.inl ⟨by rfl, ?_⟩) hHeld ?_ ?_
 rotate_left
 ·rintro w' ⟨s0, s1, s2, s3, s4⟩
  go_simp
  with_reducible rfl
 rotate_left
 ·exact aP
 refine pure_ (i := 4) (N := some 27) (v := ?_) (a' := ?_) #[tt, tt, tt, tt, tt, tt, tt, ff, ff, ff, ff, ff, ff, ff, tt, ff, ff, ff, ff, ff, ff] rfl rfl (any_of HT_.out (by kernel_rfl)) (fun _ _ _ h => h) (Or.inl ⟨by rfl, ?_⟩) ?_ ?_
 rotate_left
 ·intro w'
  go_simp
  with_reducible rfl
 rotate_left
 ·exact aP
 refine take_ (i := 7) (N := some 30) (v := ?_) (a' := ?_) #[tt, tt, tt, tt, tt, tt, tt, tt, ff, ff, ff, ff, ff, ff, tt, ff, ff, ff, ff, ff, ff] rfl rfl (take_ofW HT_.out HW_.out (by kernel_rfl)) (fun _ _ _ h => h) (Or.inl ⟨by rfl, ?_⟩) hHeld ?_ ?_
 rotate_left
 ·rintro w' ⟨s0, s1, s2, s3, s4⟩
  go_simp
  with_reducible rfl
 rotate_left
 ·exact aP
 refine pure_ (i := 8) (N := some 31) (v := ?_) (a' := ?_) #[tt, tt, tt, tt, tt, tt, tt, tt, tt, ff, ff, ff, ff, ff, tt, ff, ff, ff, ff, ff, ff] rfl rfl (any_of HT_.out (by kernel_rfl)) (fun _ _ _ h => h) (Or.inl ⟨by rfl, ?_⟩) ?_ ?_
 rotate_left
 ·intro w'
  go_simp
  with_reducible rfl
 rotate_left
 ·exact aP
 refine pure_ (i := 9) (N := some 32) (v := ?_) (a' := ?_) #[tt, tt, tt, tt, tt, tt, tt, tt, tt, tt, ff, ff, ff, ff, tt, ff, ff, ff, ff, ff, ff] rfl rfl (any_of HT_.out (by kernel_rfl)) (fun _ _ _ h => h) (Or.inl ⟨by rfl, ?_⟩) ?_ ?_
 rotate_left
 ·intro w'
  go_simp
  with_reducible rfl
 rotate_left
 ·exact aP
 refine pure_ (i := 10) (N := some 33) (v := ?_) (a' := ?_) #[tt, tt, tt, tt, tt, tt, tt, tt, tt, tt, tt, ff, ff, ff, tt, ff, ff, ff, ff, ff, ff] rfl rfl (any_of HT_.out (by kernel_rfl)) (fun _ _ _ h => h) (Or.inl ⟨by rfl, ?_⟩) ?_ ?_
 rotate_left
 ·intro w'
  go_simp
  with_reducible rfl
 rotate_left
 ·exact aP
 refine take_ (i := 15) (N := some 38) (v := ?_) (a' := ?_) #[tt, tt, tt, tt, tt, tt, tt, tt, tt, tt, tt, ff, ff, ff, tt, tt, ff, ff, ff, ff, ff] rfl rfl (take_ofW HT_.out HW_.out (by kernel_rfl)) (fun _ _ _ h => h) (Or.inl ⟨by rfl, ?_⟩) hHeld ?_ ?_
 rotate_left
 ·rintro w' ⟨s0, s1, s2, s3, s4⟩
  go_simp
  with_reducible rfl
 rotate_left
 ·exact aP
 refine one_ (i := 11) (N := some 34) #[tt, tt, tt, tt, tt, tt, tt, tt, tt, tt, tt, tt, ff, ff, tt, tt, ff, ff, ff, ff, ff] rfl rfl (one_of HT_.out (by kernel_rfl)) (by decide) (fun K hK => ?_)
 refine goes_ Try.func19 (by kernel_rfl) rfl #[.int .u8 0, .int .i64 (wrap64 ((wrap64 ((wrap64 (a0_0 - 16)) - 17)) - 1))] (by rfl) rfl rfl aO ?_
 with_reducible refine (withyref01_Repeat.calls k 0 (wrap64 ((wrap64 ((wrap64 (a0_0 - 16)) - 17)) - 1)) t184 _ A13.out).mono ?_
 rintro e w27 ⟨rfl, hb⟩
 refine ⟨_, rfl, ?_⟩
 replace BK179 := bb BK179 hb
 replace HB := as_ (below_step bA hb)
 (try clear hb)
 (try clear hb2)
 (try clear hk)
 (try clear hi)
 refine hK.out _ _ ⟨(blk_cell BK179.out 0).trans rfl, (blk_cell BK179.out 1).trans rfl, (blk_cell BK179.out 2).trans rfl, (blk_cell BK179.out 3).trans rfl, (blk_cell BK179.out 4).trans rfl⟩ (fun hHeld => ?_)
 clear hK K
 refine norm_ (a' := ?_) ?_ ?_
 rotate_left
 ·show Act.put _ (some 34) _ = _
  simp only [Act.put, List.setIfInBounds_toArray, List.set_cons_zero, List.set_cons_succ, i64_w, i32_w]
  rfl
 refine pure_ (i := 12) (N := some 35) (v := ?_) (a' := ?_) #[tt, tt, tt, tt, tt, tt, tt, tt, tt, tt, tt, tt, tt, ff, tt, tt, ff, ff, ff, ff, ff] rfl rfl (any_of HT_.out (by kernel_rfl)) (fun _ _ _ h => h) (Or.inl ⟨by rfl, ?_⟩) ?_ ?_
 rotate_left
 ·intro w'
  go_simp
  with_reducible rfl
 rotate_left
 ·exact aP
 refine pure_ (i := 13) (N := some 36) (v := ?_) (a' := ?_) #[tt, tt, tt, tt, tt, tt, tt, tt, tt, tt, tt, tt, tt, tt, tt, tt, ff, ff, ff, ff, ff] rfl rfl (any_of HT_.out (by kernel_rfl)) (fun _ _ _ h => h) (Or.inl ⟨by rfl, ?_⟩) ?_ ?_
 rotate_left
 ·intro w'
  go_simp
  with_reducible rfl
 rotate_left
 ·exact aP
 refine one_ (i := 16) (N := some 39) #[tt, tt, tt, tt, tt, tt, tt, tt, tt, tt, tt, tt, tt, tt, tt, tt, tt, ff, ff, ff, ff] rfl rfl (one_of HT_.out (by kernel_rfl)) (by decide) (fun K hK => ?_)
 refine goes_ Try.func27 (by kernel_rfl) rfl #[.agg #[.int .i64 1, .int .i64 a0_3, .int .i64 0, .int .i64 a0_2, .int .i64 0], .string js17, .int .i64 a0_0] (by rfl) rfl rfl aO ?_
 with_reducible refine (withyref07_Seal.calls k 1 a0_3 0 a0_2 0 js17 a0_0 t185 t186 _ A18.out).mono ?_
 rintro e w28 ⟨rfl, hb⟩
 refine ⟨_, rfl, ?_⟩
 replace BK179 := bb BK179 hb
 replace HB := as_ (below_step bA hb)
 (try clear hb)
 (try clear hb2)
 (try clear hk)
 (try clear hi)
 refine hK.out _ _ ⟨(blk_cell BK179.out 0).trans rfl, (blk_cell BK179.out 1).trans rfl, (blk_cell BK179.out 2).trans rfl, (blk_cell BK179.out 3).trans rfl, (blk_cell BK179.out 4).trans rfl⟩ (fun hHeld => ?_)
 clear hK K
 refine norm_ (a' := ?_) ?_ ?_
 rotate_left
 ·show Act.put _ (some 39) _ = _
  simp only [Act.put, List.setIfInBounds_toArray, List.set_cons_zero, List.set_cons_succ, i64_w, i32_w]
  rfl
 refine pure_ (i := 17) (N := some 40) (v := ?_) (a' := ?_) #[tt, tt, tt, tt, tt, tt, tt, tt, tt, tt, tt, tt, tt, tt, tt, tt, tt, tt, ff, ff, ff] rfl rfl (any_of HT_.out (by kernel_rfl)) (fun _ _ _ h => h) (Or.inl ⟨by rfl, ?_⟩) ?_ ?_
 rotate_left
 ·intro w'
  go_simp
  with_reducible rfl
 rotate_left
 ·exact aP
 refine pure_ (i := 18) (N := some 41) (v := ?_) (a' := ?_) #[tt, tt, tt, tt, tt, tt, tt, tt, tt, tt, tt, tt, tt, tt, tt, tt, tt, tt, tt, ff, ff] rfl rfl (any_of HT_.out (by kernel_rfl)) (fun _ _ _ h => h) (Or.inl ⟨by rfl, ?_⟩) ?_ ?_
 rotate_left
 ·intro w'
  go_simp
  with_reducible rfl
 rotate_left
 ·exact aP
 refine pure_ (i := 19) (N := some 2) (v := ?_) (a' := ?_) #[tt, tt, tt, tt, tt, tt, tt, tt, tt, tt, tt, tt, tt, tt, tt, tt, tt, tt, tt, tt, ff] rfl rfl (any_of HT_.out (by kernel_rfl)) (fun _ _ _ h => h) (Or.inl ⟨by rfl, ?_⟩) ?_ ?_
 rotate_left
 ·intro w'
  go_simp
  with_reducible rfl
 rotate_left
 ·exact aP
 refine pure_ (i := 20) (N := some 3) (v := ?_) (a' := ?_) #[tt, tt, tt, tt, tt, tt, tt, tt, tt, tt, tt, tt, tt, tt, tt, tt, tt, tt, tt, tt, tt] rfl rfl (any_of HT_.out (by kernel_rfl)) (fun _ _ _ h => h) (Or.inl ⟨by rfl, ?_⟩) ?_ ?_
 rotate_left
 ·intro w'
  go_simp
  with_reducible rfl
 rotate_left
 ·exact aP
 refine done_ (done_of HT_.out (by kernel_rfl)) ?_
 try go_wp2
 go_ret2
 exact ⟨by first | rfl | (simp [errW_none, errW_some] <;> rfl) | (simp only [← hjs6, ← hjs9, ← hjs12, ← hjs15, ← hjs17]; first | rfl | (simp [errW_none, errW_some] <;> rfl)) | (simp [*, errW_none, errW_some] <;> rfl), by repeat (first | (with_reducible first | exact HB.out | apply below_alloc | apply pw_below_drewN | apply below_drew1 | refine below_set ?_ GE179.out) | exact HB.out)⟩
/-! ### withylaw13_Ref: function 11 -/
def withylaw13_Ref.f (a0_0 : Int) (a0_1 : Int) (a0_2 : Int) (a0_3 : Int) (a0_4 : Int) : Option (Int × Int × Int × Int × Int) := some (a0_0, a0_1, a0_2, a0_3, a0_4)
set_option maxHeartbeats 8000000 in
set_option maxRecDepth 100000 in
theorem withylaw13_Ref.calls (a0_0 : Int) (a0_1 : Int) (a0_2 : Int) (a0_3 : Int) (a0_4 : Int) (r1 : Int) (r2 : Int) (r3 : Int) (r4 : Int) (r5 : Int) (w : World) (h : withylaw13_Ref.f a0_0 a0_1 a0_2 a0_3 a0_4 = some (r1, r2, r3, r4, r5)) :
  Calls Try.prog 11 #[.agg #[.int .i64 a0_0, .int .i64 a0_1, .int .i64 a0_2, .int .i64 a0_3, .int .i64 a0_4]] w fun e w' => e = .returned (.agg #[.int .i64 r1, .int .i64 r2, .int .i64 r3, .int .i64 r4, .int .i64 r5]) ∧ Below w.heap.size w w' := by
 have hu23 := Try.underlying23
 have hu29 := Try.underlying29
 have HB := as_ (Below.refl w.heap.size w)
 have H : (some (a0_0, a0_1, a0_2, a0_3, a0_4)) = some (r1, r2, r3, r4, r5) := h
 clear h
 simp only [Option.some.injEq, Prod.mk.injEq] at H
 obtain ⟨rfl, rfl, rfl, rfl, rfl⟩ := H
 go_enter Try.func11, Try.ntmps11
 go_wp2_with (first | ((with_reducible refine gate_dst (N := 1) rfl ?_); refine box_event (by rfl) (N := 1) (by rfl) (cs := #[.int .i64 a0_0, .int .i64 a0_1, .int .i64 a0_2, .int .i64 a0_3, .int .i64 a0_4]) (t := 23) gS ?_; intro gb187 hg w2 hbox hb; have BK187 := as_ (hbox); have GW187 := gw hg bA; have GE187 := gw hg bA; replace HB := as_ (below_step bA hb); clear hb hbox hg) | ((with_reducible refine gate_dst (N := 2) rfl ?_); refine box_event (by rfl) (N := 2) (by rfl) (cs := #[.int .i64 0, .int .i64 0, .int .i64 0, .int .i64 0, .int .i64 0]) (t := 29) gS ?_; intro gb188 hg w3 hbox hb; have BK188 := as_ (hbox); have GW188 := gw hg bA; have GE188 := gw hg bA; have NB187_188 := nl BK187 hg; have NB188_187 := ng BK187 hg; replace BK187 := bb BK187 hb; replace HB := as_ (below_step bA hb); clear hb hbox hg; have hnb4 := NB187_188.out; have hnc4 := NB188_187.out; obtain ⟨hcz5_0, hcz5_1, hcz5_2, hcz5_3, hcz5_4⟩ := zc5 BK187; obtain ⟨hfz5_0, hfz5_1, hfz5_2, hfz5_3, hfz5_4⟩ := zf5 BK187; obtain ⟨hcz6_0, hcz6_1, hcz6_2, hcz6_3, hcz6_4⟩ := zc5 BK188; obtain ⟨hfz6_0, hfz6_1, hfz6_2, hfz6_3, hfz6_4⟩ := zf5 BK188))
 refine bodyPost_ret (results_cell_row rfl _ _ gb188 29 #[.int .i64 a0_0, .int .i64 a0_1, .int .i64 a0_2, .int .i64 a0_3, .int .i64 a0_4] (0, 0) _ rfl (by refine bx ?_; refine blk_put (cs := #[.int .i64 a0_0, .int .i64 a0_1, .int .i64 a0_2, .int .i64 a0_3, .int .i64 0]) ?_ 4 _ rfl; refine bx ?_; refine blk_put (cs := #[.int .i64 a0_0, .int .i64 a0_1, .int .i64 a0_2, .int .i64 0, .int .i64 0]) ?_ 3 _ rfl; refine bx ?_; refine blk_put (cs := #[.int .i64 a0_0, .int .i64 a0_1, .int .i64 0, .int .i64 0, .int .i64 0]) ?_ 2 _ rfl; refine bx ?_; refine blk_put (cs := #[.int .i64 a0_0, .int .i64 0, .int .i64 0, .int .i64 0, .int .i64 0]) ?_ 1 _ rfl; refine bx ?_; refine blk_put (cs := #[.int .i64 0, .int .i64 0, .int .i64 0, .int .i64 0, .int .i64 0]) ?_ 0 _ rfl; refine bx ?_; exact BK188.out) Try.underlying29 rfl (by kernel_rfl)) rfl ?_
 exact ⟨eW, by repeat (first | (with_reducible first | exact HB.out | apply below_alloc | apply pw_below_drewN | apply below_drew1 | refine below_set ?_ GE187.out | refine below_set ?_ GE188.out) | exact HB.out)⟩

/-! ### word_Read: function 29 -/
mutual
def word_Read.j0 : Nat → ByteArray → Int → Bool → Option (Int × Int)
 | 0, _, _, _ => none
 | k + 1, x0, x1, x15 => if x15 = true then (some (0, 4)) else (if (wrap64 ((x0.size : Int) - x1)) < 4 then (some (0, 7)) else (word_Read.l0 k x0 x1 0 0))
def word_Read.l0 : Nat → ByteArray → Int → Int → Int → Option (Int × Int)
 | 0, _, _, _, _ => none
 | k + 1, x0, x1, x6, x21 => if x21 < 4 then (if 0 ≤ (wrap64 (x1 + x21)) then (if (wrap64 (x1 + x21)) < (x0.size : Int) then (if 0 ≤ (wrap64 (8 * x21)) then (word_Read.l0 k x0 x1 (Go.bits .or .u32 x6 (shl .u32 ((bt x0 (wrap64 (x1 + x21))) % 4294967296) (wrap64 (8 * x21)))) (wrap64 (x21 + 1))) else (none)) else (none)) else (none)) else (some (x6, 0))
end
def word_Read.f (k : Nat) (a0 : ByteArray) (a1 : Int) : Option (Int × Int) := if a1 < 0 then (word_Read.j0 k a0 a1 true) else (word_Read.j0 k a0 a1 (decide (a1 > (a0.size : Int))))
theorem word_Read.mono_l : ∀ k, (∀ y0 y1 y2, LeO (word_Read.j0 k y0 y1 y2) (word_Read.j0 (k + 1) y0 y1 y2)) ∧ (∀ y0 y1 y2 y3, LeO (word_Read.l0 k y0 y1 y2 y3) (word_Read.l0 (k + 1) y0 y1 y2 y3))
 | 0 => ⟨fun _ _ _ r h => by simp [word_Read.j0] at h, fun _ _ _ _ r h => by simp [word_Read.l0] at h⟩
 | k + 1 => by
  obtain ⟨ih0, ih1⟩ := word_Read.mono_l k
  refine ⟨?_, ?_⟩
  ·intro y0 y1 y2
   unfold word_Read.j0
   repeat' first
   | (with_reducible exact ih0 _ _ _)
   | (with_reducible exact ih1 _ _ _ _)
   | (with_reducible exact LeO.refl _)
   | (with_reducible exact LeO.none _)
   | (with_reducible refine LeO.ite ?_ ?_)
   | (with_reducible refine LeO.bind ?_ (fun _ => ?_))
   | exact ih0 _ _ _
   | exact ih1 _ _ _ _
   | exact LeO.none _
   | refine LeO.ite ?_ ?_
   | refine LeO.bind ?_ (fun _ => ?_)
  ·intro y0 y1 y2 y3
   unfold word_Read.l0
   repeat' first
   | (with_reducible exact ih0 _ _ _)
   | (with_reducible exact ih1 _ _ _ _)
   | (with_reducible exact LeO.refl _)
   | (with_reducible exact LeO.none _)
   | (with_reducible refine LeO.ite ?_ ?_)
   | (with_reducible refine LeO.bind ?_ (fun _ => ?_))
   | exact ih0 _ _ _
   | exact ih1 _ _ _ _
   | exact LeO.none _
   | refine LeO.ite ?_ ?_
   | refine LeO.bind ?_ (fun _ => ?_)
theorem word_Read.mono : ∀ a0 a1 k, LeO (word_Read.f k a0 a1) (word_Read.f (k + 1) a0 a1) := by
 intro a0 a1 k
 obtain ⟨ih0, ih1⟩ := word_Read.mono_l k
 unfold word_Read.f
 repeat' first
   | (with_reducible exact ih0 _ _ _)
   | (with_reducible exact ih1 _ _ _ _)
   | (with_reducible exact LeO.refl _)
   | (with_reducible exact LeO.none _)
   | (with_reducible refine LeO.ite ?_ ?_)
   | (with_reducible refine LeO.bind ?_ (fun _ => ?_))
   | exact ih0 _ _ _
   | exact ih1 _ _ _ _
   | exact LeO.none _
   | refine LeO.ite ?_ ?_
   | refine LeO.bind ?_ (fun _ => ?_)
set_option maxHeartbeats 8000000 in
set_option maxRecDepth 100000 in
theorem word_Read.calls (k : Nat) (a0 : ByteArray) (a1 : Int) (r1 : Int) (r2 : Int) (w : World) (h : word_Read.f k a0 a1 = some (r1, r2)) :
  Calls Try.prog 29 #[.string a0, .int .i64 a1] w fun e w' => e = .returned (.tuple #[.int .u32 r1, .int .i64 r2]) ∧ Drawn0 w w' := by
 have H : (if a1 < 0 then (word_Read.j0 k a0 a1 true) else (word_Read.j0 k a0 a1 (decide (a1 > (a0.size : Int))))) = some (r1, r2) := h
 clear h
 have HC3 := Aside0.mk H
 clear H
 go_enter Try.func29, Try.ntmps29
 go_upto_region 1 with (fail)
 go_cut [15] (fun v15 wc => ∃ (kq : Nat) (x15_2 : Bool), v15 = .bool x15_2 ∧ Aside0 (word_Read.j0 kq a0 a1 x15_2 = some (r1, r2)) ∧ Aside0 (kq ≤ k) ∧ Drawn0 w wc)
 case first =>
  have H := HC3.out
  clear HC3
  by_cases c4 : a1 < 0
  rotate_left
  ·rw [if_neg c4] at H
   have c4b0 : decide (a1 < 0) = false := decide_eq_false c4
   clear c4
   (first | rw [c4b0] | (simp only [i64_w, i32_w]; rw [c4b0]) | rw [c4b1] | skip)
   have H' := Aside0.mk H
   clear H
   go_wp2
   go_meet
   case rel => exact ⟨_, (decide (a1 > (a0.size : Int))), (by first | rfl | (simp; done) | (simp [*]; done)), H', ⟨by first | omega | exact Nat.le_refl _⟩, by repeat (first | exact Drawn0.refl _ | apply Drawn0.step)⟩
  rw [if_pos c4] at H
  have c4b0 : decide (a1 < 0) = true := decide_eq_true c4
  clear c4
  (first | rw [c4b0] | (simp only [i64_w, i32_w]; rw [c4b0]) | rw [c4b1] | skip)
  have H' := Aside0.mk H
  clear H
  go_wp2
  go_meet
  case rel => exact ⟨_, (true), (by first | rfl | (simp; done) | (simp [*]; done)), H', ⟨by first | omega | exact Nat.le_refl _⟩, by repeat (first | exact Drawn0.refl _ | apply Drawn0.step)⟩
 case rest =>
  clear HC3
  try clear c2
  try clear p2
  try clear c4
  try clear c4b0
  try clear c4b1
  obtain ⟨kq, x15_2, rfl, HA, HJ2, ⟨mc2, rfl⟩⟩ := hcut
  cases kq with
  | zero => exact absurd HA.out (by simp [word_Read.j0])
  | succ kj2 =>
   have H := HA.out
   clear HA
   simp only [word_Read.j0] at H
   by_cases c5 : x15_2 = true
   ·subst c5
    have H1 : (some (0, 4)) = some (r1, r2) := by rw [if_pos rfl] at H; exact H
    clear H
    have H := H1
    clear H1
    simp only [Option.some.injEq, Prod.mk.injEq] at H
    obtain ⟨rfl, rfl⟩ := H
    go_wp2
    go_ret2
    exact ⟨by first | rfl | (simp; done) | (simp [*]; done), by repeat (first | exact Drawn0.refl _ | apply Drawn0.step)⟩
   replace c5 := Bool.eq_false_iff.mpr c5
   subst c5
   have H1 : (if (wrap64 ((a0.size : Int) - a1)) < 4 then (some (0, 7)) else (word_Read.l0 kj2 a0 a1 0 0)) = some (r1, r2) := by rw [if_neg (show ¬ (false = true) by decide)] at H; exact H
   clear H
   have H := H1
   clear H1
   by_cases c6 : (wrap64 ((a0.size : Int) - a1)) < 4
   ·rw [if_pos c6] at H
    have c6b0 : decide ((wrap64 ((a0.size : Int) - a1)) < 4) = true := decide_eq_true c6
    clear c6
    simp only [Option.some.injEq, Prod.mk.injEq] at H
    obtain ⟨rfl, rfl⟩ := H
    go_wp2
    go_ret2
    exact ⟨by first | rfl | (simp; done) | (simp [*]; done), by repeat (first | exact Drawn0.refl _ | apply Drawn0.step)⟩
   rw [if_neg c6] at H
   have c6b0 : decide ((wrap64 ((a0.size : Int) - a1)) < 4) = false := decide_eq_false c6
   clear c6
   have H' := Aside0.mk H
   clear H
   go_wp2
   go_loopg [6, 21] kj2 (fun kq v6 v21 w' => ∃ (x6_2 : Int) (x21_2 : Int), v6 = .int .u32 x6_2 ∧ v21 = .int .i64 x21_2 ∧ Aside0 (word_Read.l0 kq a0 a1 x6_2 x21_2 = some (r1, r2)) ∧ Aside0 (kq ≤ kj2) ∧ Drawn0 w w')
   case atStart => exact ⟨(0), (0), (by first | rfl | (simp; done) | (simp [*]; done)), (by first | rfl | (simp; done) | (simp [*]; done)), H', ⟨Nat.le_refl _⟩, by repeat (first | exact Drawn0.refl _ | apply Drawn0.step)⟩
   case round =>
    clear H'
    try clear c2
    try clear p2
    try clear c4
    try clear c4b0
    try clear c4b1
    try clear c5
    try clear c6
    try clear c6b0
    try clear p6
    try clear p2
    obtain ⟨x6_2, x21_2, rfl, rfl, HA, HK2, ⟨m2, rfl⟩⟩ := hrel
    cases gk with
    | zero => exact absurd HA.out (by simp [word_Read.l0])
    | succ k2 =>
     have H := HA.out
     clear HA
     simp only [word_Read.l0] at H
     by_cases c7 : x21_2 < 4
     rotate_left
     ·rw [if_neg c7] at H
      have c7b0 : decide (x21_2 < 4) = false := decide_eq_false c7
      clear c7
      simp only [Option.some.injEq, Prod.mk.injEq] at H
      obtain ⟨rfl, rfl⟩ := H
      go_wp2
      go_ret2
      exact ⟨by first | rfl | (simp; done) | (simp [*]; done), by repeat (first | exact Drawn0.refl _ | apply Drawn0.step)⟩
 
     rw [if_pos c7] at H
     have c7b0 : decide (x21_2 < 4) = true := decide_eq_true c7
     clear c7
     obtain ⟨ji8, hji8⟩ : ∃ j_ : Int, (wrap64 (a1 + x21_2)) = j_ := ⟨_, rfl⟩
     replace H : (if 0 ≤ (ji8) then (if (ji8) < (a0.size : Int) then (if 0 ≤ (wrap64 (8 * x21_2)) then (word_Read.l0 k2 a0 a1 (Go.bits .or .u32 x6_2 (shl .u32 ((bt a0 (ji8)) % 4294967296) (wrap64 (8 * x21_2)))) (wrap64 (x21_2 + 1))) else (none)) else (none)) else (none)) = some (r1, r2) := by first | (rw [hji8] at H; exact H) | (simp only [hji8] at H ⊢; exact H)
     have hji8w : (IntKind.i64.wrap (a1 + x21_2)) = ji8 := (i64_w _).trans hji8
     by_cases c9 : 0 ≤ (ji8)
     rotate_left
     ·rw [if_neg c9] at H
      exact absurd H (by simp)
     rw [if_pos c9] at H
     have c9b0 : decide (0 ≤ (ji8)) = true := decide_eq_true c9
     clear c9
     by_cases c10 : (ji8) < (a0.size : Int)
     rotate_left
     ·rw [if_neg c10] at H
      exact absurd H (by simp)
     rw [if_pos c10] at H
     have c10b0 : decide ((ji8) < (a0.size : Int)) = true := decide_eq_true c10
     clear c10
     obtain ⟨ji12, hji12⟩ : ∃ j_ : Int, (wrap64 (8 * x21_2)) = j_ := ⟨_, rfl⟩
     replace H : (if 0 ≤ (ji12) then (word_Read.l0 k2 a0 a1 (Go.bits .or .u32 x6_2 (shl .u32 ((bt a0 (ji8)) % 4294967296) (ji12))) (wrap64 (x21_2 + 1))) else (none)) = some (r1, r2) := by first | (rw [hji12] at H; exact H) | (simp only [hji12] at H ⊢; exact H)
     have hji12w : (IntKind.i64.wrap (8 * x21_2)) = ji12 := (i64_w _).trans hji12
     by_cases c13 : 0 ≤ (ji12)
     rotate_left
     ·rw [if_neg c13] at H
      exact absurd H (by simp)
     rw [if_pos c13] at H
     have c13b0 := eq_true c13
     have c13b1 : decide (0 ≤ (ji12)) = true := decide_eq_true c13
     clear c13
     obtain ⟨ji14, hji14⟩ : ∃ j_ : Int, (shl .u32 ((bt a0 (ji8)) % 4294967296) (ji12)) = j_ := ⟨_, rfl⟩
     replace H : (word_Read.l0 k2 a0 a1 (Go.bits .or .u32 x6_2 (ji14)) (wrap64 (x21_2 + 1))) = some (r1, r2) := by first | (rw [hji14] at H; exact H) | (simp only [hji14] at H ⊢; exact H)
     have hji14_ : (IntKind.u32.wrap (((bt a0 (ji8)) % 4294967296) * 2 ^ min (ji12).toNat 32)) = ji14 := hji14
     have hji14z : (ji12) ≤ 32 → (IntKind.u32.wrap (((bt a0 (ji8)) % 4294967296) * 2 ^ (ji12).toNat)) = ji14 := shl_small hji14
     have H' := Aside0.mk H
     clear H
     have p11 : 0 ≤ ((ji8) : Int) := of_decide_eq_true aM
     have q11 : (ji8) < (a0.size : Int) := of_decide_eq_true aM
     have hx11 := bt_at a0 (ji8)
     replace p11 := eq_true p11
     replace q11 := eq_true q11
     go_wp2
     go_roundg k2
     case measure => have := HJ2.out; have := HK2.out; omega
     case rel => exact ⟨(Go.bits .or .u32 x6_2 (ji14)), (wrap64 (x21_2 + 1)), (by first | rfl | (simp; done) | (simp only [← hji14] <;> (first | rfl | simp)) | (simp [*]; done)), (by first | rfl | (simp; done) | (simp [*]; done)), H', ⟨by have := HJ2.out; have := HK2.out; omega⟩, by repeat (first | exact Drawn0.refl _ | apply Drawn0.step)⟩
end Go.Proofs.Ytnkndnpnjbcaoaa.P
