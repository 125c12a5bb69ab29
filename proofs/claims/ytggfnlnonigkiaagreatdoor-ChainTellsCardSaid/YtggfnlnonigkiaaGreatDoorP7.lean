/- What is proved here: for functions of the Go text, a Lean function each, and that the call comes to just what it answers. Conditions: as each contract names them. Written by wip/tools/myprint.py, a driver of the print of the kit. -/
import Derived.Test.YtggfnlnonigkiaaGreatDoorP0
import Derived.Test.YtggfnlnonigkiaaGreatDoorP5
import Derived.Test.YtggfnlnonigkiaaGreatDoorP6
import Derived.Test.YtggfnlnonigkiaaGreatDoorWAbbr
namespace Go.Proofs.YtggfnlnonigkiaaGreatDoor.P
open Go.RowKit Go.Proofs.YtggfnlnonigkiaaGreatDoorW.PrintWords Go.Proofs.YtggfnlnonigkiaaGreatDoorW.PrintLast Go.Proofs.YtggfnlnonigkiaaGreatDoorW.PrintMore Go.Proofs.YtggfnlnonigkiaaGreatDoorW.Abbr
-- PACKED
attribute [local go_sem] max2_int min2_int max_two min_two max_three min_three max_four min_four Go.Proofs.YtggfnlnonigkiaaGreatDoorLaws.str_leq Go.Proofs.YtggfnlnonigkiaaGreatDoorLaws.str_gtr Go.Proofs.YtggfnlnonigkiaaGreatDoorLaws.str_geq Go.Proofs.YtggfnlnonigkiaaGreatDoorLaws.max2_str Go.Proofs.YtggfnlnonigkiaaGreatDoorLaws.min2_str   -- for this text's walks alone
set_option linter.unusedVariables false
set_option linter.unusedSimpArgs false

/-! ### withyref07_Seal: function 21 -/
def withyref07_Seal.f (k : Nat) (a0_0 : Int) (a0_1 : Int) (a0_2 : Int) (a0_3 : Int) (a0_4 : Int) (a1 : ByteArray) (a2 : Int) : Option (ByteArray × Int) := (withyref06_Size.f a2).bind fun t168 => (if t168 = true then ((withyref07_Right.f a0_0 a0_1 a0_2 a0_3 a0_4).bind fun t169 => (if t169 = true then (if (a1.size : Int) > (wrap64 (a2 - 16)) then (some ((⟨#[]⟩ : ByteArray), 8)) else ((some (([(a0_0) % 256, (a0_1) % 256, (Int.tmod a0_2 256) % 256, (wrap64 (Int.tdiv a0_2 256)) % 256] : List Int) : List Int)).bind fun y170 => ((withyref01_Four.f ((a0_3) % 4294967296)).bind fun t173 => (if (strOfNums y170).size + t173.size ≤ 9223372036854775807 then ((withyref01_Four.f ((a0_4) % 4294967296)).bind fun t174 => (if ((strOfNums y170) ++ t173).size + t174.size ≤ 9223372036854775807 then ((withyref01_Repeat.f k 0 (wrap64 ((wrap64 (a2 - 16)) - (a1.size : Int)))).bind fun t175 => (if a1.size + t175.size ≤ 9223372036854775807 then (if (((strOfNums y170) ++ t173) ++ t174).size + 4 ≤ 9223372036854775807 then (if ((((strOfNums y170) ++ t173) ++ t174) ++ (⟨#[0, 0, 0, 0]⟩ : ByteArray)).size + (a1 ++ t175).size ≤ 9223372036854775807 then ((withyref02_Sum.f k (((((strOfNums y170) ++ t173) ++ t174) ++ (⟨#[0, 0, 0, 0]⟩ : ByteArray)) ++ (a1 ++ t175))).bind fun t176 => ((withyref01_Four.f t176).bind fun t177 => (if (((strOfNums y170) ++ t173) ++ t174).size + t177.size ≤ 9223372036854775807 then (if ((((strOfNums y170) ++ t173) ++ t174) ++ t177).size + (a1 ++ t175).size ≤ 9223372036854775807 then (some (((((strOfNums y170) ++ t173) ++ t174) ++ t177) ++ (a1 ++ t175), 0)) else (none)) else (none)))) else (none)) else (none)) else (none))) else (none))) else (none))))) else (some ((⟨#[]⟩ : ByteArray), 3)))) else (some ((⟨#[]⟩ : ByteArray), 4)))
theorem withyref07_Seal.mono : ∀ a0 a1 a2 a3 a4 a5 a6 k, LeO (withyref07_Seal.f k a0 a1 a2 a3 a4 a5 a6) (withyref07_Seal.f (k + 1) a0 a1 a2 a3 a4 a5 a6) := by
 intro a0 a1 a2 a3 a4 a5 a6 k
 unfold withyref07_Seal.f
 repeat' first
   | (with_reducible exact withyref01_Repeat.mono _ _ _)
   | (with_reducible exact withyref02_Sum.mono _ _)
   | (with_reducible exact LeO.refl _)
   | (with_reducible exact LeO.none _)
   | (with_reducible refine LeO.ite ?_ ?_)
   | (with_reducible refine LeO.bind ?_ (fun _ => ?_))
   | exact withyref01_Repeat.mono _ _ _
   | exact withyref02_Sum.mono _ _
   | exact LeO.none _
   | refine LeO.ite ?_ ?_
   | refine LeO.bind ?_ (fun _ => ?_)
def withyref07_Seal.T7 : Bool × List (List Nat × List Nat) := (true, [([], []), ([0], [0]), ([1], [1]), ([], []), ([3], [3]), ([4], [4]), ([], []), ([6], [6]), ([7], [7]), ([8], [8]), ([], []), ([10], [10]), ([11], [11]), ([12], [12]), ([2, 5, 9, 13], [2, 5, 9, 13]), ([14], [14]), ([], []), ([16], [16]), ([17], [17]), ([18], [18]), ([15, 19], [15, 19]), ([], []), ([21], [21]), ([22], [22]), ([23, 19], [23]), ([20, 24], [20, 24]), ([25, 24, 0, 1, 2, 3, 4, 5, 6, 7, 8, 9, 10, 11, 12, 13, 14, 15, 16, 17, 18, 19, 20, 21, 22, 23, 24, 25], [25])])
def withyref07_Seal.B7 : List Nat := [0, 1, 3, 0, 8, 24, 0, 64, 192, 448, 0, 1024, 3072, 7168, 16383, 32767, 0, 65536, 196608, 458752, 1048575, 0, 2097152, 6291456, 15663104, 33554431, 67108863]
theorem withyref07_Seal.tab7 : rtab .any (opsOf Tryz.f21 7) = withyref07_Seal.T7 := by kernel_rfl
theorem withyref07_Seal.bits7 : waitsOk withyref07_Seal.T7.2 withyref07_Seal.B7 = true := by kernel_rfl
set_option maxHeartbeats 8000000 in
set_option maxRecDepth 100000 in
theorem withyref07_Seal.calls (k : Nat) (a0_0 : Int) (a0_1 : Int) (a0_2 : Int) (a0_3 : Int) (a0_4 : Int) (a1 : ByteArray) (a2 : Int) (r1 : ByteArray) (r2 : Int) (w : World) (h : withyref07_Seal.f k a0_0 a0_1 a0_2 a0_3 a0_4 a1 a2 = some (r1, r2)) :
  Calls Tryz.prog 21 #[.agg #[.int .i64 a0_0, .int .i64 a0_1, .int .i64 a0_2, .int .i64 a0_3, .int .i64 a0_4], .string a1, .int .i64 a2] w fun e w' => e = .returned (.tuple #[.string r1, .int .i64 r2]) ∧ Below w.heap.size w w' := by
 have hu50 := Tryz.underlying50
 have HB := as_ (Below.refl w.heap.size w)
 have H : ((withyref06_Size.f a2).bind fun t168 => (if t168 = true then ((withyref07_Right.f a0_0 a0_1 a0_2 a0_3 a0_4).bind fun t169 => (if t169 = true then (if (a1.size : Int) > (wrap64 (a2 - 16)) then (some ((⟨#[]⟩ : ByteArray), 8)) else ((some (([(a0_0) % 256, (a0_1) % 256, (Int.tmod a0_2 256) % 256, (wrap64 (Int.tdiv a0_2 256)) % 256] : List Int) : List Int)).bind fun y170 => ((withyref01_Four.f ((a0_3) % 4294967296)).bind fun t173 => (if (strOfNums y170).size + t173.size ≤ 9223372036854775807 then ((withyref01_Four.f ((a0_4) % 4294967296)).bind fun t174 => (if ((strOfNums y170) ++ t173).size + t174.size ≤ 9223372036854775807 then ((withyref01_Repeat.f k 0 (wrap64 ((wrap64 (a2 - 16)) - (a1.size : Int)))).bind fun t175 => (if a1.size + t175.size ≤ 9223372036854775807 then (if (((strOfNums y170) ++ t173) ++ t174).size + 4 ≤ 9223372036854775807 then (if ((((strOfNums y170) ++ t173) ++ t174) ++ (⟨#[0, 0, 0, 0]⟩ : ByteArray)).size + (a1 ++ t175).size ≤ 9223372036854775807 then ((withyref02_Sum.f k (((((strOfNums y170) ++ t173) ++ t174) ++ (⟨#[0, 0, 0, 0]⟩ : ByteArray)) ++ (a1 ++ t175))).bind fun t176 => ((withyref01_Four.f t176).bind fun t177 => (if (((strOfNums y170) ++ t173) ++ t174).size + t177.size ≤ 9223372036854775807 then (if ((((strOfNums y170) ++ t173) ++ t174) ++ t177).size + (a1 ++ t175).size ≤ 9223372036854775807 then (some (((((strOfNums y170) ++ t173) ++ t174) ++ t177) ++ (a1 ++ t175), 0)) else (none)) else (none)))) else (none)) else (none)) else (none))) else (none))) else (none))))) else (some ((⟨#[]⟩ : ByteArray), 3)))) else (some ((⟨#[]⟩ : ByteArray), 4)))) = some (r1, r2) := h
 clear h
 replace H := bM H
 obtain ⟨t168, A40, H⟩ := H
 replace H : (if t168 = true then ((withyref07_Right.f a0_0 a0_1 a0_2 a0_3 a0_4).bind fun t169 => (if t169 = true then (if (a1.size : Int) > (wrap64 (a2 - 16)) then (some ((⟨#[]⟩ : ByteArray), 8)) else ((some (([(a0_0) % 256, (a0_1) % 256, (Int.tmod a0_2 256) % 256, (wrap64 (Int.tdiv a0_2 256)) % 256] : List Int) : List Int)).bind fun y170 => ((withyref01_Four.f ((a0_3) % 4294967296)).bind fun t173 => (if (strOfNums y170).size + t173.size ≤ 9223372036854775807 then ((withyref01_Four.f ((a0_4) % 4294967296)).bind fun t174 => (if ((strOfNums y170) ++ t173).size + t174.size ≤ 9223372036854775807 then ((withyref01_Repeat.f k 0 (wrap64 ((wrap64 (a2 - 16)) - (a1.size : Int)))).bind fun t175 => (if a1.size + t175.size ≤ 9223372036854775807 then (if (((strOfNums y170) ++ t173) ++ t174).size + 4 ≤ 9223372036854775807 then (if ((((strOfNums y170) ++ t173) ++ t174) ++ (⟨#[0, 0, 0, 0]⟩ : ByteArray)).size + (a1 ++ t175).size ≤ 9223372036854775807 then ((withyref02_Sum.f k (((((strOfNums y170) ++ t173) ++ t174) ++ (⟨#[0, 0, 0, 0]⟩ : ByteArray)) ++ (a1 ++ t175))).bind fun t176 => ((withyref01_Four.f t176).bind fun t177 => (if (((strOfNums y170) ++ t173) ++ t174).size + t177.size ≤ 9223372036854775807 then (if ((((strOfNums y170) ++ t173) ++ t174) ++ t177).size + (a1 ++ t175).size ≤ 9223372036854775807 then (some (((((strOfNums y170) ++ t173) ++ t174) ++ t177) ++ (a1 ++ t175), 0)) else (none)) else (none)))) else (none)) else (none)) else (none))) else (none))) else (none))))) else (some ((⟨#[]⟩ : ByteArray), 3)))) else (some ((⟨#[]⟩ : ByteArray), 4))) = some (r1, r2) := H
 have A4 := Aside0.mk A40
 clear A40
 by_cases c5 : t168 = true
 rotate_left
 ·replace c5 := Bool.eq_false_iff.mpr c5
  subst c5
  have H1 : (some ((⟨#[]⟩ : ByteArray), 4)) = some (r1, r2) := by rw [if_neg (show ¬ (false = true) by decide)] at H; exact H
  clear H
  have H := H1
  clear H1
  simp only [Option.some.injEq, Prod.mk.injEq] at H
  obtain ⟨rfl, rfl⟩ := H
  go_enter Tryz.func21, Tryz.ntmps21
  go_wp2_with (first | ((with_reducible refine gate_dst (N := 3) rfl ?_); refine box_event (by rfl) (N := 3) (by rfl) (cs := #[.int .i64 a0_0, .int .i64 a0_1, .int .i64 a0_2, .int .i64 a0_3, .int .i64 a0_4]) (t := 50) gS ?_; intro gb167 hg w46 hbox hb; have BK167 := as_ (hbox); have GW167 := gw hg bA; have GE167 := gw hg bA; replace HB := as_ (below_step bA hb); clear hb hbox hg) | ((with_reducible refine gate_callee (f := 12) rfl ?_); refine goesL_ (some 11) rfl rfl Tryz.func12 (by kernel_rfl) rfl #[.int .i64 a2] rfl aO ?_; (with_reducible refine (withyref06_Size.calls a2 false _ A4.out).mono ?_); rintro e w' ⟨rfl, ⟨nd, rfl⟩⟩; refine ⟨_, rfl, ?_⟩))
  go_ret2
  exact ⟨eW, by repeat (first | (with_reducible first | exact HB.out | apply below_alloc | apply pw_below_drewN | apply below_drew1 | refine below_set ?_ GE167.out) | exact HB.out)⟩
 
 subst c5
 have H1 : ((withyref07_Right.f a0_0 a0_1 a0_2 a0_3 a0_4).bind fun t169 => (if t169 = true then (if (a1.size : Int) > (wrap64 (a2 - 16)) then (some ((⟨#[]⟩ : ByteArray), 8)) else ((some (([(a0_0) % 256, (a0_1) % 256, (Int.tmod a0_2 256) % 256, (wrap64 (Int.tdiv a0_2 256)) % 256] : List Int) : List Int)).bind fun y170 => ((withyref01_Four.f ((a0_3) % 4294967296)).bind fun t173 => (if (strOfNums y170).size + t173.size ≤ 9223372036854775807 then ((withyref01_Four.f ((a0_4) % 4294967296)).bind fun t174 => (if ((strOfNums y170) ++ t173).size + t174.size ≤ 9223372036854775807 then ((withyref01_Repeat.f k 0 (wrap64 ((wrap64 (a2 - 16)) - (a1.size : Int)))).bind fun t175 => (if a1.size + t175.size ≤ 9223372036854775807 then (if (((strOfNums y170) ++ t173) ++ t174).size + 4 ≤ 9223372036854775807 then (if ((((strOfNums y170) ++ t173) ++ t174) ++ (⟨#[0, 0, 0, 0]⟩ : ByteArray)).size + (a1 ++ t175).size ≤ 9223372036854775807 then ((withyref02_Sum.f k (((((strOfNums y170) ++ t173) ++ t174) ++ (⟨#[0, 0, 0, 0]⟩ : ByteArray)) ++ (a1 ++ t175))).bind fun t176 => ((withyref01_Four.f t176).bind fun t177 => (if (((strOfNums y170) ++ t173) ++ t174).size + t177.size ≤ 9223372036854775807 then (if ((((strOfNums y170) ++ t173) ++ t174) ++ t177).size + (a1 ++ t175).size ≤ 9223372036854775807 then (some (((((strOfNums y170) ++ t173) ++ t174) ++ t177) ++ (a1 ++ t175), 0)) else (none)) else (none)))) else (none)) else (none)) else (none))) else (none))) else (none))))) else (some ((⟨#[]⟩ : ByteArray), 3)))) = some (r1, r2) := by rw [if_pos rfl] at H; exact H
 clear H
 have H := H1
 clear H1
 replace H := bM H
 obtain ⟨t169, A60, H⟩ := H
 replace H : (if t169 = true then (if (a1.size : Int) > (wrap64 (a2 - 16)) then (some ((⟨#[]⟩ : ByteArray), 8)) else ((some (([(a0_0) % 256, (a0_1) % 256, (Int.tmod a0_2 256) % 256, (wrap64 (Int.tdiv a0_2 256)) % 256] : List Int) : List Int)).bind fun y170 => ((withyref01_Four.f ((a0_3) % 4294967296)).bind fun t173 => (if (strOfNums y170).size + t173.size ≤ 9223372036854775807 then ((withyref01_Four.f ((a0_4) % 4294967296)).bind fun t174 => (if ((strOfNums y170) ++ t173).size + t174.size ≤ 9223372036854775807 then ((withyref01_Repeat.f k 0 (wrap64 ((wrap64 (a2 - 16)) - (a1.size : Int)))).bind fun t175 => (if a1.size + t175.size ≤ 9223372036854775807 then (if (((strOfNums y170) ++ t173) ++ t174).size + 4 ≤ 9223372036854775807 then (if ((((strOfNums y170) ++ t173) ++ t174) ++ (⟨#[0, 0, 0, 0]⟩ : ByteArray)).size + (a1 ++ t175).size ≤ 9223372036854775807 then ((withyref02_Sum.f k (((((strOfNums y170) ++ t173) ++ t174) ++ (⟨#[0, 0, 0, 0]⟩ : ByteArray)) ++ (a1 ++ t175))).bind fun t176 => ((withyref01_Four.f t176).bind fun t177 => (if (((strOfNums y170) ++ t173) ++ t174).size + t177.size ≤ 9223372036854775807 then (if ((((strOfNums y170) ++ t173) ++ t174) ++ t177).size + (a1 ++ t175).size ≤ 9223372036854775807 then (some (((((strOfNums y170) ++ t173) ++ t174) ++ t177) ++ (a1 ++ t175), 0)) else (none)) else (none)))) else (none)) else (none)) else (none))) else (none))) else (none))))) else (some ((⟨#[]⟩ : ByteArray), 3))) = some (r1, r2) := H
 have A6 := Aside0.mk A60
 clear A60
 by_cases c7 : t169 = true
 rotate_left
 ·replace c7 := Bool.eq_false_iff.mpr c7
  subst c7
  have H1 : (some ((⟨#[]⟩ : ByteArray), 3)) = some (r1, r2) := by rw [if_neg (show ¬ (false = true) by decide)] at H; exact H
  clear H
  have H := H1
  clear H1
  simp only [Option.some.injEq, Prod.mk.injEq] at H
  obtain ⟨rfl, rfl⟩ := H
  go_enter Tryz.func21, Tryz.ntmps21
  go_wp2_with (first | ((with_reducible refine gate_dst (N := 3) rfl ?_); refine box_event (by rfl) (N := 3) (by rfl) (cs := #[.int .i64 a0_0, .int .i64 a0_1, .int .i64 a0_2, .int .i64 a0_3, .int .i64 a0_4]) (t := 50) gS ?_; intro gb167 hg w43 hbox hb; have BK167 := as_ (hbox); have GW167 := gw hg bA; have GE167 := gw hg bA; replace HB := as_ (below_step bA hb); clear hb hbox hg) | ((with_reducible refine gate_callee (f := 12) rfl ?_); refine goesL_ (some 11) rfl rfl Tryz.func12 (by kernel_rfl) rfl #[.int .i64 a2] rfl aO ?_; (with_reducible refine (withyref06_Size.calls a2 true _ A4.out).mono ?_); rintro e w' ⟨rfl, ⟨nd, rfl⟩⟩; refine ⟨_, rfl, ?_⟩; obtain ⟨hcz44_0, hcz44_1, hcz44_2, hcz44_3, hcz44_4⟩ := zc5 BK167; obtain ⟨hfz44_0, hfz44_1, hfz44_2, hfz44_3, hfz44_4⟩ := zf5 BK167) | ((with_reducible refine gate_callee (f := 35) rfl ?_); refine goesL_ (some 14) rfl rfl Tryz.func35 (by kernel_rfl) rfl #[.agg #[.int .i64 a0_0, .int .i64 a0_1, .int .i64 a0_2, .int .i64 a0_3, .int .i64 a0_4]] rfl aO ?_; (with_reducible refine (withyref07_Right.calls a0_0 a0_1 a0_2 a0_3 a0_4 false _ A6.out).mono ?_); rintro e w45 ⟨rfl, hb⟩; refine ⟨_, rfl, ?_⟩; replace BK167 := bb BK167 hb; replace HB := as_ (below_step bA hb); (try clear hb); (try clear hb2); (try clear hk); (try clear hi)))
  go_ret2
  exact ⟨eW, by repeat (first | (with_reducible first | exact HB.out | apply below_alloc | apply pw_below_drewN | apply below_drew1 | refine below_set ?_ GE167.out) | exact HB.out)⟩
 subst c7
 have H1 : (if (a1.size : Int) > (wrap64 (a2 - 16)) then (some ((⟨#[]⟩ : ByteArray), 8)) else ((some (([(a0_0) % 256, (a0_1) % 256, (Int.tmod a0_2 256) % 256, (wrap64 (Int.tdiv a0_2 256)) % 256] : List Int) : List Int)).bind fun y170 => ((withyref01_Four.f ((a0_3) % 4294967296)).bind fun t173 => (if (strOfNums y170).size + t173.size ≤ 9223372036854775807 then ((withyref01_Four.f ((a0_4) % 4294967296)).bind fun t174 => (if ((strOfNums y170) ++ t173).size + t174.size ≤ 9223372036854775807 then ((withyref01_Repeat.f k 0 (wrap64 ((wrap64 (a2 - 16)) - (a1.size : Int)))).bind fun t175 => (if a1.size + t175.size ≤ 9223372036854775807 then (if (((strOfNums y170) ++ t173) ++ t174).size + 4 ≤ 9223372036854775807 then (if ((((strOfNums y170) ++ t173) ++ t174) ++ (⟨#[0, 0, 0, 0]⟩ : ByteArray)).size + (a1 ++ t175).size ≤ 9223372036854775807 then ((withyref02_Sum.f k (((((strOfNums y170) ++ t173) ++ t174) ++ (⟨#[0, 0, 0, 0]⟩ : ByteArray)) ++ (a1 ++ t175))).bind fun t176 => ((withyref01_Four.f t176).bind fun t177 => (if (((strOfNums y170) ++ t173) ++ t174).size + t177.size ≤ 9223372036854775807 then (if ((((strOfNums y170) ++ t173) ++ t174) ++ t177).size + (a1 ++ t175).size ≤ 9223372036854775807 then (some (((((strOfNums y170) ++ t173) ++ t174) ++ t177) ++ (a1 ++ t175), 0)) else (none)) else (none)))) else (none)) else (none)) else (none))) else (none))) else (none))))) = some (r1, r2) := by rw [if_pos rfl] at H; exact H
 clear H
 have H := H1
 clear H1
 by_cases c8 : (a1.size : Int) > (wrap64 (a2 - 16))
 ·rw [if_pos c8] at H
  have c8b0 : decide ((wrap64 (a2 - 16)) < (a1.size : Int)) = true := decide_eq_true c8
  clear c8
  simp only [Option.some.injEq, Prod.mk.injEq] at H
  obtain ⟨rfl, rfl⟩ := H
  go_enter Tryz.func21, Tryz.ntmps21
  go_wp2_with (first | ((with_reducible refine gate_dst (N := 3) rfl ?_); refine box_event (by rfl) (N := 3) (by rfl) (cs := #[.int .i64 a0_0, .int .i64 a0_1, .int .i64 a0_2, .int .i64 a0_3, .int .i64 a0_4]) (t := 50) gS ?_; intro gb167 hg w9 hbox hb; have BK167 := as_ (hbox); have GW167 := gw hg bA; have GE167 := gw hg bA; replace HB := as_ (below_step bA hb); clear hb hbox hg) | ((with_reducible refine gate_callee (f := 12) rfl ?_); refine goesL_ (some 11) rfl rfl Tryz.func12 (by kernel_rfl) rfl #[.int .i64 a2] rfl aO ?_; (with_reducible refine (withyref06_Size.calls a2 true _ A4.out).mono ?_); rintro e w' ⟨rfl, ⟨nd, rfl⟩⟩; refine ⟨_, rfl, ?_⟩; obtain ⟨hcz10_0, hcz10_1, hcz10_2, hcz10_3, hcz10_4⟩ := zc5 BK167; obtain ⟨hfz10_0, hfz10_1, hfz10_2, hfz10_3, hfz10_4⟩ := zf5 BK167) | ((with_reducible refine gate_callee (f := 35) rfl ?_); refine goesL_ (some 14) rfl rfl Tryz.func35 (by kernel_rfl) rfl #[.agg #[.int .i64 a0_0, .int .i64 a0_1, .int .i64 a0_2, .int .i64 a0_3, .int .i64 a0_4]] rfl aO ?_; (with_reducible refine (withyref07_Right.calls a0_0 a0_1 a0_2 a0_3 a0_4 true _ A6.out).mono ?_); rintro e w11 ⟨rfl, hb⟩; refine ⟨_, rfl, ?_⟩; replace BK167 := bb BK167 hb; replace HB := as_ (below_step bA hb); (try clear hb); (try clear hb2); (try clear hk); (try clear hi)))
  go_ret2
  exact ⟨eW, by repeat (first | (with_reducible first | exact HB.out | apply below_alloc | apply pw_below_drewN | apply below_drew1 | refine below_set ?_ GE167.out) | exact HB.out)⟩
 rw [if_neg c8] at H
 have c8b0 : decide ((wrap64 (a2 - 16)) < (a1.size : Int)) = false := decide_eq_false c8
 clear c8
 obtain ⟨y170, hy170⟩ : ∃ y_ : List Int, y_ = (([(a0_0) % 256, (a0_1) % 256, (Int.tmod a0_2 256) % 256, (wrap64 (Int.tdiv a0_2 256)) % 256] : List Int)) := ⟨_, rfl⟩
 replace H : ((withyref01_Four.f ((a0_3) % 4294967296)).bind fun t173 => (if (strOfNums y170).size + t173.size ≤ 9223372036854775807 then ((withyref01_Four.f ((a0_4) % 4294967296)).bind fun t174 => (if ((strOfNums y170) ++ t173).size + t174.size ≤ 9223372036854775807 then ((withyref01_Repeat.f k 0 (wrap64 ((wrap64 (a2 - 16)) - (a1.size : Int)))).bind fun t175 => (if a1.size + t175.size ≤ 9223372036854775807 then (if (((strOfNums y170) ++ t173) ++ t174).size + 4 ≤ 9223372036854775807 then (if ((((strOfNums y170) ++ t173) ++ t174) ++ (⟨#[0, 0, 0, 0]⟩ : ByteArray)).size + (a1 ++ t175).size ≤ 9223372036854775807 then ((withyref02_Sum.f k (((((strOfNums y170) ++ t173) ++ t174) ++ (⟨#[0, 0, 0, 0]⟩ : ByteArray)) ++ (a1 ++ t175))).bind fun t176 => ((withyref01_Four.f t176).bind fun t177 => (if (((strOfNums y170) ++ t173) ++ t174).size + t177.size ≤ 9223372036854775807 then (if ((((strOfNums y170) ++ t173) ++ t174) ++ t177).size + (a1 ++ t175).size ≤ 9223372036854775807 then (some (((((strOfNums y170) ++ t173) ++ t174) ++ t177) ++ (a1 ++ t175), 0)) else (none)) else (none)))) else (none)) else (none)) else (none))) else (none))) else (none))) = some (r1, r2) := by first | (rw [hy170]; with_reducible exact H) | (have H2_ := (Option.bind_some _ _).symm.trans H; rw [hy170]; with_reducible exact H2_) | (have H2_ := (Option.bind_some _ _).symm.trans H; with_reducible exact H2_) | with_reducible exact H | (rw [hy170]; exact H) | exact H
 have Ny170 := Aside0.mk hy170
 clear hy170
 replace H := bM H
 obtain ⟨t173, A120, H⟩ := H
 replace H : (if (strOfNums y170).size + t173.size ≤ 9223372036854775807 then ((withyref01_Four.f ((a0_4) % 4294967296)).bind fun t174 => (if ((strOfNums y170) ++ t173).size + t174.size ≤ 9223372036854775807 then ((withyref01_Repeat.f k 0 (wrap64 ((wrap64 (a2 - 16)) - (a1.size : Int)))).bind fun t175 => (if a1.size + t175.size ≤ 9223372036854775807 then (if (((strOfNums y170) ++ t173) ++ t174).size + 4 ≤ 9223372036854775807 then (if ((((strOfNums y170) ++ t173) ++ t174) ++ (⟨#[0, 0, 0, 0]⟩ : ByteArray)).size + (a1 ++ t175).size ≤ 9223372036854775807 then ((withyref02_Sum.f k (((((strOfNums y170) ++ t173) ++ t174) ++ (⟨#[0, 0, 0, 0]⟩ : ByteArray)) ++ (a1 ++ t175))).bind fun t176 => ((withyref01_Four.f t176).bind fun t177 => (if (((strOfNums y170) ++ t173) ++ t174).size + t177.size ≤ 9223372036854775807 then (if ((((strOfNums y170) ++ t173) ++ t174) ++ t177).size + (a1 ++ t175).size ≤ 9223372036854775807 then (some (((((strOfNums y170) ++ t173) ++ t174) ++ t177) ++ (a1 ++ t175), 0)) else (none)) else (none)))) else (none)) else (none)) else (none))) else (none))) else (none)) = some (r1, r2) := H
 have A12 := Aside0.mk A120
 clear A120
 by_cases c13 : (strOfNums y170).size + t173.size ≤ 9223372036854775807
 rotate_left
 ·rw [if_neg c13] at H
  exact absurd H (by simp)
 rw [if_pos c13] at H
 have c13b0 := eq_true c13
 have c13b1 : decide ((strOfNums y170).size + t173.size ≤ 9223372036854775807) = true := decide_eq_true c13
 try have c13b2 : (9223372036854775807 < (strOfNums y170).size + t173.size) = False := eq_false (Nat.not_lt.2 c13)
 obtain ⟨js14, hjs14⟩ : ∃ j_ : ByteArray, ((strOfNums y170) ++ t173) = j_ := ⟨_, rfl⟩
 replace H : ((withyref01_Four.f ((a0_4) % 4294967296)).bind fun t174 => (if (js14).size + t174.size ≤ 9223372036854775807 then ((withyref01_Repeat.f k 0 (wrap64 ((wrap64 (a2 - 16)) - (a1.size : Int)))).bind fun t175 => (if a1.size + t175.size ≤ 9223372036854775807 then (if ((js14) ++ t174).size + 4 ≤ 9223372036854775807 then (if (((js14) ++ t174) ++ (⟨#[0, 0, 0, 0]⟩ : ByteArray)).size + (a1 ++ t175).size ≤ 9223372036854775807 then ((withyref02_Sum.f k ((((js14) ++ t174) ++ (⟨#[0, 0, 0, 0]⟩ : ByteArray)) ++ (a1 ++ t175))).bind fun t176 => ((withyref01_Four.f t176).bind fun t177 => (if ((js14) ++ t174).size + t177.size ≤ 9223372036854775807 then (if (((js14) ++ t174) ++ t177).size + (a1 ++ t175).size ≤ 9223372036854775807 then (some ((((js14) ++ t174) ++ t177) ++ (a1 ++ t175), 0)) else (none)) else (none)))) else (none)) else (none)) else (none))) else (none))) = some (r1, r2) := by first | (rw [hjs14] at H; exact H) | (simp only [hjs14] at H ⊢; exact H)
 (try rw [hjs14] at A4)
 (try rw [hjs14] at A6)
 (try rw [hjs14] at A12)
 replace H := bM H
 obtain ⟨t174, A150, H⟩ := H
 replace H : (if (js14).size + t174.size ≤ 9223372036854775807 then ((withyref01_Repeat.f k 0 (wrap64 ((wrap64 (a2 - 16)) - (a1.size : Int)))).bind fun t175 => (if a1.size + t175.size ≤ 9223372036854775807 then (if ((js14) ++ t174).size + 4 ≤ 9223372036854775807 then (if (((js14) ++ t174) ++ (⟨#[0, 0, 0, 0]⟩ : ByteArray)).size + (a1 ++ t175).size ≤ 9223372036854775807 then ((withyref02_Sum.f k ((((js14) ++ t174) ++ (⟨#[0, 0, 0, 0]⟩ : ByteArray)) ++ (a1 ++ t175))).bind fun t176 => ((withyref01_Four.f t176).bind fun t177 => (if ((js14) ++ t174).size + t177.size ≤ 9223372036854775807 then (if (((js14) ++ t174) ++ t177).size + (a1 ++ t175).size ≤ 9223372036854775807 then (some ((((js14) ++ t174) ++ t177) ++ (a1 ++ t175), 0)) else (none)) else (none)))) else (none)) else (none)) else (none))) else (none)) = some (r1, r2) := H
 have A15 := Aside0.mk A150
 clear A150
 by_cases c16 : (js14).size + t174.size ≤ 9223372036854775807
 rotate_left
 ·rw [if_neg c16] at H
  exact absurd H (by simp)
 rw [if_pos c16] at H
 have c16b0 := eq_true c16
 have c16b1 : decide ((js14).size + t174.size ≤ 9223372036854775807) = true := decide_eq_true c16
 try have c16b2 : (9223372036854775807 < (js14).size + t174.size) = False := eq_false (Nat.not_lt.2 c16)
 obtain ⟨js17, hjs17⟩ : ∃ j_ : ByteArray, ((js14) ++ t174) = j_ := ⟨_, rfl⟩
 replace H : ((withyref01_Repeat.f k 0 (wrap64 ((wrap64 (a2 - 16)) - (a1.size : Int)))).bind fun t175 => (if a1.size + t175.size ≤ 9223372036854775807 then (if (js17).size + 4 ≤ 9223372036854775807 then (if ((js17) ++ (⟨#[0, 0, 0, 0]⟩ : ByteArray)).size + (a1 ++ t175).size ≤ 9223372036854775807 then ((withyref02_Sum.f k (((js17) ++ (⟨#[0, 0, 0, 0]⟩ : ByteArray)) ++ (a1 ++ t175))).bind fun t176 => ((withyref01_Four.f t176).bind fun t177 => (if (js17).size + t177.size ≤ 9223372036854775807 then (if ((js17) ++ t177).size + (a1 ++ t175).size ≤ 9223372036854775807 then (some (((js17) ++ t177) ++ (a1 ++ t175), 0)) else (none)) else (none)))) else (none)) else (none)) else (none))) = some (r1, r2) := by first | (rw [hjs17] at H; exact H) | (simp only [hjs17] at H ⊢; exact H)
 (try rw [hjs17] at A4)
 (try rw [hjs17] at A6)
 (try rw [hjs17] at A12)
 (try rw [hjs17] at A15)
 replace H := bM H
 obtain ⟨t175, A180, H⟩ := H
 replace H : (if a1.size + t175.size ≤ 9223372036854775807 then (if (js17).size + 4 ≤ 9223372036854775807 then (if ((js17) ++ (⟨#[0, 0, 0, 0]⟩ : ByteArray)).size + (a1 ++ t175).size ≤ 9223372036854775807 then ((withyref02_Sum.f k (((js17) ++ (⟨#[0, 0, 0, 0]⟩ : ByteArray)) ++ (a1 ++ t175))).bind fun t176 => ((withyref01_Four.f t176).bind fun t177 => (if (js17).size + t177.size ≤ 9223372036854775807 then (if ((js17) ++ t177).size + (a1 ++ t175).size ≤ 9223372036854775807 then (some (((js17) ++ t177) ++ (a1 ++ t175), 0)) else (none)) else (none)))) else (none)) else (none)) else (none)) = some (r1, r2) := H
 have A18 := Aside0.mk A180
 clear A180
 by_cases c19 : a1.size + t175.size ≤ 9223372036854775807
 rotate_left
 ·rw [if_neg c19] at H
  exact absurd H (by simp)
 rw [if_pos c19] at H
 have c19b0 := eq_true c19
 have c19b1 : decide (a1.size + t175.size ≤ 9223372036854775807) = true := decide_eq_true c19
 try have c19b2 : (9223372036854775807 < a1.size + t175.size) = False := eq_false (Nat.not_lt.2 c19)
 obtain ⟨js20, hjs20⟩ : ∃ j_ : ByteArray, (a1 ++ t175) = j_ := ⟨_, rfl⟩
 replace H : (if (js17).size + 4 ≤ 9223372036854775807 then (if ((js17) ++ (⟨#[0, 0, 0, 0]⟩ : ByteArray)).size + (js20).size ≤ 9223372036854775807 then ((withyref02_Sum.f k (((js17) ++ (⟨#[0, 0, 0, 0]⟩ : ByteArray)) ++ (js20))).bind fun t176 => ((withyref01_Four.f t176).bind fun t177 => (if (js17).size + t177.size ≤ 9223372036854775807 then (if ((js17) ++ t177).size + (js20).size ≤ 9223372036854775807 then (some (((js17) ++ t177) ++ (js20), 0)) else (none)) else (none)))) else (none)) else (none)) = some (r1, r2) := by first | (rw [hjs20] at H; exact H) | (simp only [hjs20] at H ⊢; exact H)
 (try rw [hjs20] at A4)
 (try rw [hjs20] at A6)
 (try rw [hjs20] at A12)
 (try rw [hjs20] at A15)
 (try rw [hjs20] at A18)
 by_cases c21 : (js17).size + 4 ≤ 9223372036854775807
 rotate_left
 ·rw [if_neg c21] at H
  exact absurd H (by simp)
 rw [if_pos c21] at H
 have c21b0 := eq_true c21
 have c21b1 : decide ((js17).size + 4 ≤ 9223372036854775807) = true := decide_eq_true c21
 try have c21b2 : (9223372036854775807 < (js17).size + 4) = False := eq_false (Nat.not_lt.2 c21)
 obtain ⟨js22, hjs22⟩ : ∃ j_ : ByteArray, ((js17) ++ (⟨#[0, 0, 0, 0]⟩ : ByteArray)) = j_ := ⟨_, rfl⟩
 replace H : (if (js22).size + (js20).size ≤ 9223372036854775807 then ((withyref02_Sum.f k ((js22) ++ (js20))).bind fun t176 => ((withyref01_Four.f t176).bind fun t177 => (if (js17).size + t177.size ≤ 9223372036854775807 then (if ((js17) ++ t177).size + (js20).size ≤ 9223372036854775807 then (some (((js17) ++ t177) ++ (js20), 0)) else (none)) else (none)))) else (none)) = some (r1, r2) := by first | (rw [hjs22] at H; exact H) | (simp only [hjs22] at H ⊢; exact H)
 (try rw [hjs22] at A4)
 (try rw [hjs22] at A6)
 (try rw [hjs22] at A12)
 (try rw [hjs22] at A15)
 (try rw [hjs22] at A18)
 by_cases c23 : (js22).size + (js20).size ≤ 9223372036854775807
 rotate_left
 ·rw [if_neg c23] at H
  exact absurd H (by simp)
 rw [if_pos c23] at H
 have c23b0 := eq_true c23
 have c23b1 : decide ((js22).size + (js20).size ≤ 9223372036854775807) = true := decide_eq_true c23
 try have c23b2 : (9223372036854775807 < (js22).size + (js20).size) = False := eq_false (Nat.not_lt.2 c23)
 obtain ⟨js24, hjs24⟩ : ∃ j_ : ByteArray, ((js22) ++ (js20)) = j_ := ⟨_, rfl⟩
 replace H : ((withyref02_Sum.f k (js24)).bind fun t176 => ((withyref01_Four.f t176).bind fun t177 => (if (js17).size + t177.size ≤ 9223372036854775807 then (if ((js17) ++ t177).size + (js20).size ≤ 9223372036854775807 then (some (((js17) ++ t177) ++ (js20), 0)) else (none)) else (none)))) = some (r1, r2) := by first | (rw [hjs24] at H; exact H) | (simp only [hjs24] at H ⊢; exact H)
 (try rw [hjs24] at A4)
 (try rw [hjs24] at A6)
 (try rw [hjs24] at A12)
 (try rw [hjs24] at A15)
 (try rw [hjs24] at A18)
 replace H := bM H
 obtain ⟨t176, A250, H⟩ := H
 replace H : ((withyref01_Four.f t176).bind fun t177 => (if (js17).size + t177.size ≤ 9223372036854775807 then (if ((js17) ++ t177).size + (js20).size ≤ 9223372036854775807 then (some (((js17) ++ t177) ++ (js20), 0)) else (none)) else (none))) = some (r1, r2) := H
 have A25 := Aside0.mk A250
 clear A250
 replace H := bM H
 obtain ⟨t177, A260, H⟩ := H
 replace H : (if (js17).size + t177.size ≤ 9223372036854775807 then (if ((js17) ++ t177).size + (js20).size ≤ 9223372036854775807 then (some (((js17) ++ t177) ++ (js20), 0)) else (none)) else (none)) = some (r1, r2) := H
 have A26 := Aside0.mk A260
 clear A260
 by_cases c27 : (js17).size + t177.size ≤ 9223372036854775807
 rotate_left
 ·rw [if_neg c27] at H
  exact absurd H (by simp)
 rw [if_pos c27] at H
 have c27b0 := eq_true c27
 have c27b1 : decide ((js17).size + t177.size ≤ 9223372036854775807) = true := decide_eq_true c27
 try have c27b2 : (9223372036854775807 < (js17).size + t177.size) = False := eq_false (Nat.not_lt.2 c27)
 obtain ⟨js28, hjs28⟩ : ∃ j_ : ByteArray, ((js17) ++ t177) = j_ := ⟨_, rfl⟩
 replace H : (if (js28).size + (js20).size ≤ 9223372036854775807 then (some ((js28) ++ (js20), 0)) else (none)) = some (r1, r2) := by first | (rw [hjs28] at H; exact H) | (simp only [hjs28] at H ⊢; exact H)
 (try rw [hjs28] at A4)
 (try rw [hjs28] at A6)
 (try rw [hjs28] at A12)
 (try rw [hjs28] at A15)
 (try rw [hjs28] at A18)
 (try rw [hjs28] at A25)
 (try rw [hjs28] at A26)
 by_cases c29 : (js28).size + (js20).size ≤ 9223372036854775807
 rotate_left
 ·rw [if_neg c29] at H
  exact absurd H (by simp)
 rw [if_pos c29] at H
 have c29b0 := eq_true c29
 have c29b1 : decide ((js28).size + (js20).size ≤ 9223372036854775807) = true := decide_eq_true c29
 try have c29b2 : (9223372036854775807 < (js28).size + (js20).size) = False := eq_false (Nat.not_lt.2 c29)
 obtain ⟨js30, hjs30⟩ : ∃ j_ : ByteArray, ((js28) ++ (js20)) = j_ := ⟨_, rfl⟩
 replace H : (some (js30, 0)) = some (r1, r2) := by first | (rw [hjs30] at H; exact H) | (simp only [hjs30] at H ⊢; exact H)
 (try rw [hjs30] at A4)
 (try rw [hjs30] at A6)
 (try rw [hjs30] at A12)
 (try rw [hjs30] at A15)
 (try rw [hjs30] at A18)
 (try rw [hjs30] at A25)
 (try rw [hjs30] at A26)
 simp only [Option.some.injEq, Prod.mk.injEq] at H
 obtain ⟨rfl, rfl⟩ := H
 go_enter Tryz.func21, Tryz.ntmps21
 try go_wp2_with (first | ((with_reducible refine gate_dst (N := 3) rfl ?_); refine box_event (by rfl) (N := 3) (by rfl) (cs := #[.int .i64 a0_0, .int .i64 a0_1, .int .i64 a0_2, .int .i64 a0_3, .int .i64 a0_4]) (t := 50) gS ?_; intro gb167 hg w31 hbox hb; have BK167 := as_ (hbox); have GW167 := gw hg bA; have GE167 := gw hg bA; replace HB := as_ (below_step bA hb); clear hb hbox hg) | ((with_reducible refine gate_callee (f := 12) rfl ?_); refine goesL_ (some 11) rfl rfl Tryz.func12 (by kernel_rfl) rfl #[.int .i64 a2] rfl aO ?_; (with_reducible refine (withyref06_Size.calls a2 true _ A4.out).mono ?_); rintro e w' ⟨rfl, ⟨nd, rfl⟩⟩; refine ⟨_, rfl, ?_⟩; obtain ⟨hcz32_0, hcz32_1, hcz32_2, hcz32_3, hcz32_4⟩ := zc5 BK167; obtain ⟨hfz32_0, hfz32_1, hfz32_2, hfz32_3, hfz32_4⟩ := zf5 BK167) | ((with_reducible refine gate_callee (f := 35) rfl ?_); refine goesL_ (some 14) rfl rfl Tryz.func35 (by kernel_rfl) rfl #[.agg #[.int .i64 a0_0, .int .i64 a0_1, .int .i64 a0_2, .int .i64 a0_3, .int .i64 a0_4]] rfl aO ?_; (with_reducible refine (withyref07_Right.calls a0_0 a0_1 a0_2 a0_3 a0_4 true _ A6.out).mono ?_); rintro e w33 ⟨rfl, hb⟩; refine ⟨_, rfl, ?_⟩; replace BK167 := bb BK167 hb; replace HB := as_ (below_step bA hb); (try clear hb); (try clear hb2); (try clear hk); (try clear hi)))
 replace BK167 := as_ (blk_drew BK167.out)
 replace HB := as_ (below_drew1 HB.out)
 refine start_ (n := 27) (S := fun w' => w'.cell? ⟨gb167, 0, none⟩ = some (.int .i64 a0_0) ∧ w'.cell? ⟨gb167, 1, none⟩ = some (.int .i64 a0_1) ∧ w'.cell? ⟨gb167, 2, none⟩ = some (.int .i64 a0_2) ∧ w'.cell? ⟨gb167, 3, none⟩ = some (.int .i64 a0_3) ∧ w'.cell? ⟨gb167, 4, none⟩ = some (.int .i64 a0_4)) (ds := []) #[ff, ff, ff, ff, ff, ff, ff, ff, ff, ff, ff, ff, ff, ff, ff, ff, ff, ff, ff, ff, ff, ff, ff, ff, ff, ff, ff] (by kernel_rfl) rfl rfl ⟨(blk_cell BK167.out 0).trans rfl, (blk_cell BK167.out 1).trans rfl, (blk_cell BK167.out 2).trans rfl, (blk_cell BK167.out 3).trans rfl, (blk_cell BK167.out 4).trans rfl⟩ (fun hHeld => ?_); refine with_tabW withyref07_Seal.tab7 withyref07_Seal.bits7 (fun HT_ HW_ => ?_)
 generalize w33.drew = w34 at BK167 HB hHeld ⊢
 refine pure_ (i := 0) (N := some 21) (v := ?_) (a' := ?_) #[tt, ff, ff, ff, ff, ff, ff, ff, ff, ff, ff, ff, ff, ff, ff, ff, ff, ff, ff, ff, ff, ff, ff, ff, ff, ff, ff] rfl rfl (any_of HT_.out (by kernel_rfl)) (fun _ _ _ h => h) (Or.inl ⟨by rfl, ?_⟩) ?_ ?_
 rotate_left
 ·intro w'
  go_simp
  with_reducible rfl
 rotate_left
 ·exact aP
 refine pure_ (i := 3) (N := some 24) (v := ?_) (a' := ?_) #[tt, ff, ff, tt, ff, ff, ff, ff, ff, ff, ff, ff, ff, ff, ff, ff, ff, ff, ff, ff, ff, ff, ff, ff, ff, ff, ff] rfl rfl (any_of HT_.out (by kernel_rfl)) (fun _ _ _ h => h) (Or.inl ⟨by rfl, ?_⟩) ?_ ?_
 rotate_left
 ·intro w'
  go_simp
  with_reducible rfl
 rotate_left
 ·exact aP
 refine pure_ (i := 6) (N := some 27) (v := ?_) (a' := ?_) #[tt, ff, ff, tt, ff, ff, tt, ff, ff, ff, ff, ff, ff, ff, ff, ff, ff, ff, ff, ff, ff, ff, ff, ff, ff, ff, ff] rfl rfl (any_of HT_.out (by kernel_rfl)) (fun _ _ _ h => h) (Or.inl ⟨by rfl, ?_⟩) ?_ ?_
 rotate_left
 ·intro w'
  go_simp
  with_reducible rfl
 rotate_left
 ·exact aP
 refine pure_ (i := 10) (N := some 31) (v := ?_) (a' := ?_) #[tt, ff, ff, tt, ff, ff, tt, ff, ff, ff, tt, ff, ff, ff, ff, ff, ff, ff, ff, ff, ff, ff, ff, ff, ff, ff, ff] rfl rfl (any_of HT_.out (by kernel_rfl)) (fun _ _ _ h => h) (Or.inl ⟨by rfl, ?_⟩) ?_ ?_
 rotate_left
 ·intro w'
  go_simp
  with_reducible rfl
 rotate_left
 ·exact aP
 refine pure_ (i := 16) (N := some 37) (v := ?_) (a' := ?_) #[tt, ff, ff, tt, ff, ff, tt, ff, ff, ff, tt, ff, ff, ff, ff, ff, tt, ff, ff, ff, ff, ff, ff, ff, ff, ff, ff] rfl rfl (any_of HT_.out (by kernel_rfl)) (fun _ _ _ h => h) (Or.inl ⟨by rfl, ?_⟩) ?_ ?_
 rotate_left
 ·intro w'
  go_simp
  with_reducible rfl
 rotate_left
 ·exact aP
 refine pure_ (i := 21) (N := some 42) (v := ?_) (a' := ?_) #[tt, ff, ff, tt, ff, ff, tt, ff, ff, ff, tt, ff, ff, ff, ff, ff, tt, ff, ff, ff, ff, tt, ff, ff, ff, ff, ff] rfl rfl (any_of HT_.out (by kernel_rfl)) (fun _ _ _ h => h) (Or.inl ⟨by rfl, ?_⟩) ?_ ?_
 rotate_left
 ·intro w'
  go_simp
  with_reducible rfl
 rotate_left
 ·exact aP
 refine take_ (i := 1) (N := some 22) (v := ?_) (a' := ?_) #[tt, tt, ff, tt, ff, ff, tt, ff, ff, ff, tt, ff, ff, ff, ff, ff, tt, ff, ff, ff, ff, tt, ff, ff, ff, ff, ff] rfl rfl (take_ofW HT_.out HW_.out (by kernel_rfl)) (fun _ _ _ h => h) (Or.inl ⟨by rfl, ?_⟩) hHeld ?_ ?_
 rotate_left
 ·rintro w' ⟨s0, s1, s2, s3, s4⟩
  go_simp
  with_reducible rfl
 rotate_left
 ·exact aP
 refine pure_ (i := 2) (N := some 23) (v := ?_) (a' := ?_) #[tt, tt, tt, tt, ff, ff, tt, ff, ff, ff, tt, ff, ff, ff, ff, ff, tt, ff, ff, ff, ff, tt, ff, ff, ff, ff, ff] rfl rfl (any_of HT_.out (by kernel_rfl)) (fun _ _ _ h => h) (Or.inl ⟨by rfl, ?_⟩) ?_ ?_
 rotate_left
 ·intro w'
  go_simp
  with_reducible rfl
 rotate_left
 ·exact aP
 refine take_ (i := 4) (N := some 25) (v := ?_) (a' := ?_) #[tt, tt, tt, tt, tt, ff, tt, ff, ff, ff, tt, ff, ff, ff, ff, ff, tt, ff, ff, ff, ff, tt, ff, ff, ff, ff, ff] rfl rfl (take_ofW HT_.out HW_.out (by kernel_rfl)) (fun _ _ _ h => h) (Or.inl ⟨by rfl, ?_⟩) hHeld ?_ ?_
 rotate_left
 ·rintro w' ⟨s0, s1, s2, s3, s4⟩
  go_simp
  with_reducible rfl
 rotate_left
 ·exact aP
 refine pure_ (i := 5) (N := some 26) (v := ?_) (a' := ?_) #[tt, tt, tt, tt, tt, tt, tt, ff, ff, ff, tt, ff, ff, ff, ff, ff, tt, ff, ff, ff, ff, tt, ff, ff, ff, ff, ff] rfl rfl (any_of HT_.out (by kernel_rfl)) (fun _ _ _ h => h) (Or.inl ⟨by rfl, ?_⟩) ?_ ?_
 rotate_left
 ·intro w'
  go_simp
  with_reducible rfl
 rotate_left
 ·exact aP
 refine take_ (i := 7) (N := some 28) (v := ?_) (a' := ?_) #[tt, tt, tt, tt, tt, tt, tt, tt, ff, ff, tt, ff, ff, ff, ff, ff, tt, ff, ff, ff, ff, tt, ff, ff, ff, ff, ff] rfl rfl (take_ofW HT_.out HW_.out (by kernel_rfl)) (fun _ _ _ h => h) (Or.inl ⟨by rfl, ?_⟩) hHeld ?_ ?_
 rotate_left
 ·rintro w' ⟨s0, s1, s2, s3, s4⟩
  go_simp
  with_reducible rfl
 rotate_left
 ·exact aP
 refine pure_ (i := 8) (N := some 29) (v := ?_) (a' := ?_) #[tt, tt, tt, tt, tt, tt, tt, tt, tt, ff, tt, ff, ff, ff, ff, ff, tt, ff, ff, ff, ff, tt, ff, ff, ff, ff, ff] rfl rfl (any_of HT_.out (by kernel_rfl)) (fun _ _ _ h => h) (Or.inl ⟨by rfl, ?_⟩) ?_ ?_
 rotate_left
 ·intro w'
  go_simp
  with_reducible rfl
 rotate_left
 ·exact aP
 refine pure_ (i := 9) (N := some 30) (v := ?_) (a' := ?_) #[tt, tt, tt, tt, tt, tt, tt, tt, tt, tt, tt, ff, ff, ff, ff, ff, tt, ff, ff, ff, ff, tt, ff, ff, ff, ff, ff] rfl rfl (any_of HT_.out (by kernel_rfl)) (fun _ _ _ h => h) (Or.inl ⟨by rfl, ?_⟩) ?_ ?_
 rotate_left
 ·intro w'
  go_simp
  with_reducible rfl
 rotate_left
 ·exact aP
 refine take_ (i := 11) (N := some 32) (v := ?_) (a' := ?_) #[tt, tt, tt, tt, tt, tt, tt, tt, tt, tt, tt, tt, ff, ff, ff, ff, tt, ff, ff, ff, ff, tt, ff, ff, ff, ff, ff] rfl rfl (take_ofW HT_.out HW_.out (by kernel_rfl)) (fun _ _ _ h => h) (Or.inl ⟨by rfl, ?_⟩) hHeld ?_ ?_
 rotate_left
 ·rintro w' ⟨s0, s1, s2, s3, s4⟩
  go_simp
  with_reducible rfl
 rotate_left
 ·exact aP
 refine pure_ (i := 12) (N := some 33) (v := ?_) (a' := ?_) #[tt, tt, tt, tt, tt, tt, tt, tt, tt, tt, tt, tt, tt, ff, ff, ff, tt, ff, ff, ff, ff, tt, ff, ff, ff, ff, ff] rfl rfl (any_of HT_.out (by kernel_rfl)) (fun _ _ _ h => h) (Or.inl ⟨by rfl, ?_⟩) ?_ ?_
 rotate_left
 ·intro w'
  go_simp
  with_reducible rfl
 rotate_left
 ·exact aP
 refine pure_ (i := 13) (N := some 34) (v := ?_) (a' := ?_) #[tt, tt, tt, tt, tt, tt, tt, tt, tt, tt, tt, tt, tt, tt, ff, ff, tt, ff, ff, ff, ff, tt, ff, ff, ff, ff, ff] rfl rfl (any_of HT_.out (by kernel_rfl)) (fun _ _ _ h => h) (Or.inl ⟨by rfl, ?_⟩) ?_ ?_
 rotate_left
 ·intro w'
  go_simp
  with_reducible rfl
 rotate_left
 ·exact aP
 refine take_ (i := 17) (N := some 38) (v := ?_) (a' := ?_) #[tt, tt, tt, tt, tt, tt, tt, tt, tt, tt, tt, tt, tt, tt, ff, ff, tt, tt, ff, ff, ff, tt, ff, ff, ff, ff, ff] rfl rfl (take_ofW HT_.out HW_.out (by kernel_rfl)) (fun _ _ _ h => h) (Or.inl ⟨by rfl, ?_⟩) hHeld ?_ ?_
 rotate_left
 ·rintro w' ⟨s0, s1, s2, s3, s4⟩
  go_simp
  with_reducible rfl
 rotate_left
 ·exact aP
 refine pure_ (i := 18) (N := some 39) (v := ?_) (a' := ?_) #[tt, tt, tt, tt, tt, tt, tt, tt, tt, tt, tt, tt, tt, tt, ff, ff, tt, tt, tt, ff, ff, tt, ff, ff, ff, ff, ff] rfl rfl (any_of HT_.out (by kernel_rfl)) (fun _ _ _ h => h) (Or.inl ⟨by rfl, ?_⟩) ?_ ?_
 rotate_left
 ·intro w'
  go_simp
  with_reducible rfl
 rotate_left
 ·exact aP
 refine take_ (i := 22) (N := some 43) (v := ?_) (a' := ?_) #[tt, tt, tt, tt, tt, tt, tt, tt, tt, tt, tt, tt, tt, tt, ff, ff, tt, tt, tt, ff, ff, tt, tt, ff, ff, ff, ff] rfl rfl (take_ofW HT_.out HW_.out (by kernel_rfl)) (fun _ _ _ h => h) (Or.inl ⟨by rfl, ?_⟩) hHeld ?_ ?_
 rotate_left
 ·rintro w' ⟨s0, s1, s2, s3, s4⟩
  go_simp
  with_reducible rfl
 rotate_left
 ·exact aP
 refine pure_ (i := 23) (N := some 44) (v := ?_) (a' := ?_) #[tt, tt, tt, tt, tt, tt, tt, tt, tt, tt, tt, tt, tt, tt, ff, ff, tt, tt, tt, ff, ff, tt, tt, tt, ff, ff, ff] rfl rfl (any_of HT_.out (by kernel_rfl)) (fun _ _ _ h => h) (Or.inl ⟨by rfl, ?_⟩) ?_ ?_
 rotate_left
 ·intro w'
  go_simp
  with_reducible rfl
 rotate_left
 ·exact aP
 refine join_ (σ := Value) 2 #[tt, tt, tt, tt, tt, tt, tt, tt, tt, tt, tt, tt, tt, tt, tt, tt, tt, tt, tt, tt, tt, tt, tt, tt, tt, ff, ff] (fun s_ => [(35, s_), (36, .string (strOfNums y170)), (40, .string t173), (45, .string t174), (41, .string js14)]) (fun s_ w' => (w'.cell? ⟨gb167, 0, none⟩ = some (.int .i64 a0_0) ∧ w'.cell? ⟨gb167, 1, none⟩ = some (.int .i64 a0_1) ∧ w'.cell? ⟨gb167, 2, none⟩ = some (.int .i64 a0_2) ∧ w'.cell? ⟨gb167, 3, none⟩ = some (.int .i64 a0_3) ∧ w'.cell? ⟨gb167, 4, none⟩ = some (.int .i64 a0_4)) ∧ (Kd.R (Kd.int .u8) 5 w' w.heap.size (fun _ => True) s_ y170) ∧ (w'.heap[gb167]? = some (.cells #[.int .i64 a0_0, .int .i64 a0_1, .int .i64 a0_2, .int .i64 a0_3, .int .i64 a0_4] 50 (0, 0))) ∧ (Below w.heap.size w w')) ?_ ?_
 rotate_left
 ·intro hJ14_15_19_24
  refine join_ (σ := Value) 3 #[tt, tt, tt, tt, tt, tt, tt, tt, tt, tt, tt, tt, tt, tt, tt, tt, tt, tt, tt, tt, tt, tt, tt, tt, ff, ff, ff] (fun s_ => [(35, s_), (36, .string (strOfNums y170)), (40, .string t173), (41, .string js14)]) (fun s_ w' => (w'.cell? ⟨gb167, 0, none⟩ = some (.int .i64 a0_0) ∧ w'.cell? ⟨gb167, 1, none⟩ = some (.int .i64 a0_1) ∧ w'.cell? ⟨gb167, 2, none⟩ = some (.int .i64 a0_2) ∧ w'.cell? ⟨gb167, 3, none⟩ = some (.int .i64 a0_3) ∧ w'.cell? ⟨gb167, 4, none⟩ = some (.int .i64 a0_4)) ∧ (Kd.R (Kd.int .u8) 5 w' w.heap.size (fun _ => True) s_ y170) ∧ (w'.heap[gb167]? = some (.cells #[.int .i64 a0_0, .int .i64 a0_1, .int .i64 a0_2, .int .i64 a0_3, .int .i64 a0_4] 50 (0, 0))) ∧ (Below w.heap.size w w')) ?_ ?_
  rotate_left
  ·intro hJ14_15_19
   refine join_ (σ := Value) 4 #[tt, tt, tt, tt, tt, tt, tt, tt, tt, tt, tt, tt, tt, tt, tt, ff, tt, tt, tt, tt, ff, tt, tt, tt, tt, ff, ff] (fun s_ => [(35, s_), (40, .string t173), (45, .string t174)]) (fun s_ w' => (w'.cell? ⟨gb167, 0, none⟩ = some (.int .i64 a0_0) ∧ w'.cell? ⟨gb167, 1, none⟩ = some (.int .i64 a0_1) ∧ w'.cell? ⟨gb167, 2, none⟩ = some (.int .i64 a0_2) ∧ w'.cell? ⟨gb167, 3, none⟩ = some (.int .i64 a0_3) ∧ w'.cell? ⟨gb167, 4, none⟩ = some (.int .i64 a0_4)) ∧ (Kd.R (Kd.int .u8) 5 w' w.heap.size (fun _ => True) s_ y170) ∧ (w'.heap[gb167]? = some (.cells #[.int .i64 a0_0, .int .i64 a0_1, .int .i64 a0_2, .int .i64 a0_3, .int .i64 a0_4] 50 (0, 0))) ∧ (Below w.heap.size w w')) ?_ ?_
   rotate_left
   ·intro hJ14_19_24
    refine join_ (σ := Value) 5 #[tt, tt, tt, tt, tt, tt, tt, tt, tt, tt, tt, tt, tt, tt, tt, tt, tt, tt, tt, ff, ff, tt, tt, tt, ff, ff, ff] (fun s_ => [(35, s_), (36, .string (strOfNums y170))]) (fun s_ w' => (w'.cell? ⟨gb167, 0, none⟩ = some (.int .i64 a0_0) ∧ w'.cell? ⟨gb167, 1, none⟩ = some (.int .i64 a0_1) ∧ w'.cell? ⟨gb167, 2, none⟩ = some (.int .i64 a0_2) ∧ w'.cell? ⟨gb167, 3, none⟩ = some (.int .i64 a0_3) ∧ w'.cell? ⟨gb167, 4, none⟩ = some (.int .i64 a0_4)) ∧ (Kd.R (Kd.int .u8) 5 w' w.heap.size (fun _ => True) s_ y170) ∧ (w'.heap[gb167]? = some (.cells #[.int .i64 a0_0, .int .i64 a0_1, .int .i64 a0_2, .int .i64 a0_3, .int .i64 a0_4] 50 (0, 0))) ∧ (Below w.heap.size w w')) ?_ ?_
    rotate_left
    ·intro hJ14_15
     refine join_ (σ := Value) 5 #[tt, tt, tt, tt, tt, tt, tt, tt, tt, tt, tt, tt, tt, tt, tt, ff, tt, tt, tt, tt, ff, tt, tt, tt, ff, ff, ff] (fun s_ => [(35, s_), (40, .string t173)]) (fun s_ w' => (w'.cell? ⟨gb167, 0, none⟩ = some (.int .i64 a0_0) ∧ w'.cell? ⟨gb167, 1, none⟩ = some (.int .i64 a0_1) ∧ w'.cell? ⟨gb167, 2, none⟩ = some (.int .i64 a0_2) ∧ w'.cell? ⟨gb167, 3, none⟩ = some (.int .i64 a0_3) ∧ w'.cell? ⟨gb167, 4, none⟩ = some (.int .i64 a0_4)) ∧ (Kd.R (Kd.int .u8) 5 w' w.heap.size (fun _ => True) s_ y170) ∧ (w'.heap[gb167]? = some (.cells #[.int .i64 a0_0, .int .i64 a0_1, .int .i64 a0_2, .int .i64 a0_3, .int .i64 a0_4] 50 (0, 0))) ∧ (Below w.heap.size w w')) ?_ ?_
     rotate_left
     ·intro hJ14_19
      refine join_ (σ := Unit) 5 #[tt, tt, tt, tt, tt, tt, tt, tt, tt, tt, tt, tt, tt, tt, ff, ff, tt, tt, tt, tt, ff, tt, tt, tt, tt, ff, ff] (fun s_ => [(40, .string t173), (45, .string t174)]) (fun s_ w' => (w'.cell? ⟨gb167, 0, none⟩ = some (.int .i64 a0_0) ∧ w'.cell? ⟨gb167, 1, none⟩ = some (.int .i64 a0_1) ∧ w'.cell? ⟨gb167, 2, none⟩ = some (.int .i64 a0_2) ∧ w'.cell? ⟨gb167, 3, none⟩ = some (.int .i64 a0_3) ∧ w'.cell? ⟨gb167, 4, none⟩ = some (.int .i64 a0_4)) ∧ (w'.heap[gb167]? = some (.cells #[.int .i64 a0_0, .int .i64 a0_1, .int .i64 a0_2, .int .i64 a0_3, .int .i64 a0_4] 50 (0, 0))) ∧ (Below w.heap.size w w')) ?_ ?_
      rotate_left
      ·intro hJ19_24
       refine join_ (σ := Value) 6 #[tt, tt, tt, tt, tt, tt, tt, tt, tt, tt, tt, tt, tt, tt, tt, ff, tt, tt, tt, ff, ff, tt, tt, tt, ff, ff, ff] (fun s_ => [(35, s_)]) (fun s_ w' => (w'.cell? ⟨gb167, 0, none⟩ = some (.int .i64 a0_0) ∧ w'.cell? ⟨gb167, 1, none⟩ = some (.int .i64 a0_1) ∧ w'.cell? ⟨gb167, 2, none⟩ = some (.int .i64 a0_2) ∧ w'.cell? ⟨gb167, 3, none⟩ = some (.int .i64 a0_3) ∧ w'.cell? ⟨gb167, 4, none⟩ = some (.int .i64 a0_4)) ∧ (Kd.R (Kd.int .u8) 5 w' w.heap.size (fun _ => True) s_ y170) ∧ (w'.heap[gb167]? = some (.cells #[.int .i64 a0_0, .int .i64 a0_1, .int .i64 a0_2, .int .i64 a0_3, .int .i64 a0_4] 50 (0, 0))) ∧ (Below w.heap.size w w')) ?_ ?_
       rotate_left
       ·intro hJ14
        refine join_ (σ := Unit) 6 #[tt, tt, tt, tt, tt, tt, tt, tt, tt, tt, tt, tt, tt, tt, ff, ff, tt, tt, tt, tt, ff, tt, tt, tt, ff, ff, ff] (fun s_ => [(40, .string t173)]) (fun s_ w' => (w'.cell? ⟨gb167, 0, none⟩ = some (.int .i64 a0_0) ∧ w'.cell? ⟨gb167, 1, none⟩ = some (.int .i64 a0_1) ∧ w'.cell? ⟨gb167, 2, none⟩ = some (.int .i64 a0_2) ∧ w'.cell? ⟨gb167, 3, none⟩ = some (.int .i64 a0_3) ∧ w'.cell? ⟨gb167, 4, none⟩ = some (.int .i64 a0_4)) ∧ (w'.heap[gb167]? = some (.cells #[.int .i64 a0_0, .int .i64 a0_1, .int .i64 a0_2, .int .i64 a0_3, .int .i64 a0_4] 50 (0, 0))) ∧ (Below w.heap.size w w')) ?_ ?_
        rotate_left
        ·intro hJ19
         refine two_ (i := 14) (j := 19) (Ni := some 35) (Nj := some 40) #[tt, tt, tt, tt, tt, tt, tt, tt, tt, tt, tt, tt, tt, tt, tt, ff, tt, tt, tt, ff, ff, tt, tt, tt, ff, ff, ff] #[tt, tt, tt, tt, tt, tt, tt, tt, tt, tt, tt, tt, tt, tt, ff, ff, tt, tt, tt, tt, ff, tt, tt, tt, ff, ff, ff] rfl rfl rfl rfl (two_of HT_.out (by kernel_rfl)) (by decide) (by decide) (fun K hK => ?_) (fun K hK => ?_)
         ·skip
          refine Kd.R_lit_step (Kd.int .u8) _ 5 ?hg (N := 35) ?hd (xs := ([(a0_0) % 256, (a0_1) % 256, (Int.tmod a0_2 256) % 256, (wrap64 (Int.tdiv a0_2 256)) % 256] : List Int)) (inner := [.int .u8 ((a0_0) % 256), .int .u8 ((a0_1) % 256), .int .u8 ((Int.tmod a0_2 256) % 256), .int .u8 ((wrap64 (Int.tdiv a0_2 256)) % 256)]) (ok := fun _ => True) (okp := fun _ => True) ?hr ?hp (fun _ hk => hk) trivial (Below.refl _ _) (Nat.le_refl _) (by simp) ?_; (case hd => rfl); (case hg => rfl); (case hr => first | (go_simp; done) | (go_simp; rfl)); (case hp => exact (Reps.one (show Kd.M (Kd.int .u8) _ _ _ ((a0_0) % 256) [.int .u8 ((a0_0) % 256)] from rfl) (Reps.one (show Kd.M (Kd.int .u8) _ _ _ ((a0_1) % 256) [.int .u8 ((a0_1) % 256)] from rfl) (Reps.one (show Kd.M (Kd.int .u8) _ _ _ ((Int.tmod a0_2 256) % 256) [.int .u8 ((Int.tmod a0_2 256) % 256)] from rfl) (Reps.one (show Kd.M (Kd.int .u8) _ _ _ ((wrap64 (Int.tdiv a0_2 256)) % 256) [.int .u8 ((wrap64 (Int.tdiv a0_2 256)) % 256)] from rfl) (Reps.none _ _))))))
          intro v171 w35 ho36 hb hg_ hnew_
          clear hg_ hnew_
          (first | rw [← Ny170.out] at ho36 | (simp only [Int.reduceToNat] at ho36; rw [← Ny170.out] at ho36))
          have HO172 := as_ (Kd.R_lower ho36 (below_size bA))
          replace BK167 := bb BK167 hb
          replace HB := as_ (below_step bA hb)
          clear hb ho36
          refine hK.out _ _ ⟨(blk_cell BK167.out 0).trans rfl, (blk_cell BK167.out 1).trans rfl, (blk_cell BK167.out 2).trans rfl, (blk_cell BK167.out 3).trans rfl, (blk_cell BK167.out 4).trans rfl⟩ (fun hHeld => ?_)
          clear hK K
          refine norm_ (a' := ?_) ?_ ?_
          rotate_left
          ·show Act.put _ (some 35) _ = _
           simp only [Act.put, List.setIfInBounds_toArray, List.set_cons_zero, List.set_cons_succ, i64_w, i32_w]
           rfl
          exact norm_ (by first | (simp only [putAll, Act.put, List.setIfInBounds_toArray, List.set_cons_zero, List.set_cons_succ]; done) | (simp only [putAll, Act.put, List.setIfInBounds_toArray, List.set_cons_zero, List.set_cons_succ]; rfl)) (hJ14 (v171) _ ⟨hHeld, (by (with_reducible repeat (first | apply Kd.R_alloc | apply Kd.R_drewN | apply Kd.R_drew)); exact HO172.out), (bk BK167), bA⟩)
         ·skip
          refine goes_ Tryz.func36 (by kernel_rfl) rfl #[.int .u32 ((a0_3) % 4294967296)] (by rfl) rfl rfl aO ?_
          with_reducible refine (withyref01_Four.calls ((a0_3) % 4294967296) t173 _ A12.out).mono ?_
          rintro e w35 ⟨rfl, hb⟩
          refine ⟨_, rfl, ?_⟩
          replace BK167 := bb BK167 hb
          replace HB := as_ (below_step bA hb)
          (try clear hb)
          (try clear hb2)
          (try clear hk)
          (try clear hi)
          refine hK.out _ _ ⟨(blk_cell BK167.out 0).trans rfl, (blk_cell BK167.out 1).trans rfl, (blk_cell BK167.out 2).trans rfl, (blk_cell BK167.out 3).trans rfl, (blk_cell BK167.out 4).trans rfl⟩ (fun hHeld => ?_)
          clear hK K
          refine norm_ (a' := ?_) ?_ ?_
          rotate_left
          ·show Act.put _ (some 40) _ = _
           simp only [Act.put, List.setIfInBounds_toArray, List.set_cons_zero, List.set_cons_succ, i64_w, i32_w]
           rfl
          exact norm_ (by first | (simp only [putAll, Act.put, List.setIfInBounds_toArray, List.set_cons_zero, List.set_cons_succ]; done) | (simp only [putAll, Act.put, List.setIfInBounds_toArray, List.set_cons_zero, List.set_cons_succ]; rfl)) (hJ19 () _ ⟨hHeld, (bk BK167), bA⟩)
        ·skip
         rintro _ w36 ⟨hS_, h0_, h1_⟩
         have n0_ : Aside0 (w36.heap[gb167]? = some (.cells #[.int .i64 a0_0, .int .i64 a0_1, .int .i64 a0_2, .int .i64 a0_3, .int .i64 a0_4] 50 (0, 0))) := ⟨h0_⟩
         have n1_ : Aside0 (Below w.heap.size w w36) := ⟨h1_⟩
         clear BK167
         clear HB
         clear h0_ h1_
         have BK167 := n0_
         have HB := n1_
         clear n0_ n1_
         have hHeld : w36.cell? ⟨gb167, 0, none⟩ = some (.int .i64 a0_0) ∧ w36.cell? ⟨gb167, 1, none⟩ = some (.int .i64 a0_1) ∧ w36.cell? ⟨gb167, 2, none⟩ = some (.int .i64 a0_2) ∧ w36.cell? ⟨gb167, 3, none⟩ = some (.int .i64 a0_3) ∧ w36.cell? ⟨gb167, 4, none⟩ = some (.int .i64 a0_4) := hS_
         refine norm_ (a' := ?_) ?_ ?_
         rotate_left
         ·simp only [putAll, Act.put, List.setIfInBounds_toArray, List.set_cons_zero, List.set_cons_succ]
          rfl
         refine two_ (i := 14) (j := 24) (Ni := some 35) (Nj := some 45) #[tt, tt, tt, tt, tt, tt, tt, tt, tt, tt, tt, tt, tt, tt, tt, ff, tt, tt, tt, tt, ff, tt, tt, tt, ff, ff, ff] #[tt, tt, tt, tt, tt, tt, tt, tt, tt, tt, tt, tt, tt, tt, ff, ff, tt, tt, tt, tt, ff, tt, tt, tt, tt, ff, ff] rfl rfl rfl rfl (two_of HT_.out (by kernel_rfl)) (by decide) (by decide) (fun K hK => ?_) (fun K hK => ?_)
         ·skip
          refine Kd.R_lit_step (Kd.int .u8) _ 5 ?hg (N := 35) ?hd (xs := ([(a0_0) % 256, (a0_1) % 256, (Int.tmod a0_2 256) % 256, (wrap64 (Int.tdiv a0_2 256)) % 256] : List Int)) (inner := [.int .u8 ((a0_0) % 256), .int .u8 ((a0_1) % 256), .int .u8 ((Int.tmod a0_2 256) % 256), .int .u8 ((wrap64 (Int.tdiv a0_2 256)) % 256)]) (ok := fun _ => True) (okp := fun _ => True) ?hr ?hp (fun _ hk => hk) trivial (Below.refl _ _) (Nat.le_refl _) (by simp) ?_; (case hd => rfl); (case hg => rfl); (case hr => first | (go_simp; done) | (go_simp; rfl)); (case hp => exact (Reps.one (show Kd.M (Kd.int .u8) _ _ _ ((a0_0) % 256) [.int .u8 ((a0_0) % 256)] from rfl) (Reps.one (show Kd.M (Kd.int .u8) _ _ _ ((a0_1) % 256) [.int .u8 ((a0_1) % 256)] from rfl) (Reps.one (show Kd.M (Kd.int .u8) _ _ _ ((Int.tmod a0_2 256) % 256) [.int .u8 ((Int.tmod a0_2 256) % 256)] from rfl) (Reps.one (show Kd.M (Kd.int .u8) _ _ _ ((wrap64 (Int.tdiv a0_2 256)) % 256) [.int .u8 ((wrap64 (Int.tdiv a0_2 256)) % 256)] from rfl) (Reps.none _ _))))))
          intro v171 w37 ho38 hb hg_ hnew_
          clear hg_ hnew_
          (first | rw [← Ny170.out] at ho38 | (simp only [Int.reduceToNat] at ho38; rw [← Ny170.out] at ho38))
          have HO172 := as_ (Kd.R_lower ho38 (below_size bA))
          replace BK167 := bb BK167 hb
          replace HB := as_ (below_step bA hb)
          clear hb ho38
          refine hK.out _ _ ⟨(blk_cell BK167.out 0).trans rfl, (blk_cell BK167.out 1).trans rfl, (blk_cell BK167.out 2).trans rfl, (blk_cell BK167.out 3).trans rfl, (blk_cell BK167.out 4).trans rfl⟩ (fun hHeld => ?_)
          clear hK K
          refine norm_ (a' := ?_) ?_ ?_
          rotate_left
          ·show Act.put _ (some 35) _ = _
           simp only [Act.put, List.setIfInBounds_toArray, List.set_cons_zero, List.set_cons_succ, i64_w, i32_w]
           rfl
          exact norm_ (by first | (simp only [putAll, Act.put, List.setIfInBounds_toArray, List.set_cons_zero, List.set_cons_succ]; done) | (simp only [putAll, Act.put, List.setIfInBounds_toArray, List.set_cons_zero, List.set_cons_succ]; rfl)) (hJ14_19 (v171) _ ⟨hHeld, (by (with_reducible repeat (first | apply Kd.R_alloc | apply Kd.R_drewN | apply Kd.R_drew)); exact HO172.out), (bk BK167), bA⟩)
         ·skip
          refine goes_ Tryz.func36 (by kernel_rfl) rfl #[.int .u32 ((a0_4) % 4294967296)] (by rfl) rfl rfl aO ?_
          with_reducible refine (withyref01_Four.calls ((a0_4) % 4294967296) t174 _ A15.out).mono ?_
          rintro e w37 ⟨rfl, hb⟩
          refine ⟨_, rfl, ?_⟩
          replace BK167 := bb BK167 hb
          replace HB := as_ (below_step bA hb)
          (try clear hb)
          (try clear hb2)
          (try clear hk)
          (try clear hi)
          refine hK.out _ _ ⟨(blk_cell BK167.out 0).trans rfl, (blk_cell BK167.out 1).trans rfl, (blk_cell BK167.out 2).trans rfl, (blk_cell BK167.out 3).trans rfl, (blk_cell BK167.out 4).trans rfl⟩ (fun hHeld => ?_)
          clear hK K
          refine norm_ (a' := ?_) ?_ ?_
          rotate_left
          ·show Act.put _ (some 45) _ = _
           simp only [Act.put, List.setIfInBounds_toArray, List.set_cons_zero, List.set_cons_succ, i64_w, i32_w]
           rfl
          exact norm_ (by first | (simp only [putAll, Act.put, List.setIfInBounds_toArray, List.set_cons_zero, List.set_cons_succ]; done) | (simp only [putAll, Act.put, List.setIfInBounds_toArray, List.set_cons_zero, List.set_cons_succ]; rfl)) (hJ19_24 () _ ⟨hHeld, (bk BK167), bA⟩)
       ·skip
        rintro v171 w37 ⟨hS_, h0_, h1_, h2_⟩
        have n0_ : Aside0 (Kd.R (Kd.int .u8) 5 w37 w.heap.size (fun _ => True) v171 y170) := ⟨h0_⟩
        have n1_ : Aside0 (w37.heap[gb167]? = some (.cells #[.int .i64 a0_0, .int .i64 a0_1, .int .i64 a0_2, .int .i64 a0_3, .int .i64 a0_4] 50 (0, 0))) := ⟨h1_⟩
        have n2_ : Aside0 (Below w.heap.size w w37) := ⟨h2_⟩
        clear BK167
        clear HB
        clear h0_ h1_ h2_
        have HO172 := n0_
        have BK167 := n1_
        have HB := n2_
        clear n0_ n1_ n2_
        have hHeld : w37.cell? ⟨gb167, 0, none⟩ = some (.int .i64 a0_0) ∧ w37.cell? ⟨gb167, 1, none⟩ = some (.int .i64 a0_1) ∧ w37.cell? ⟨gb167, 2, none⟩ = some (.int .i64 a0_2) ∧ w37.cell? ⟨gb167, 3, none⟩ = some (.int .i64 a0_3) ∧ w37.cell? ⟨gb167, 4, none⟩ = some (.int .i64 a0_4) := hS_
        refine norm_ (a' := ?_) ?_ ?_
        rotate_left
        ·simp only [putAll, Act.put, List.setIfInBounds_toArray, List.set_cons_zero, List.set_cons_succ]
         rfl
        refine two_ (i := 15) (j := 19) (Ni := some 36) (Nj := some 40) #[tt, tt, tt, tt, tt, tt, tt, tt, tt, tt, tt, tt, tt, tt, tt, tt, tt, tt, tt, ff, ff, tt, tt, tt, ff, ff, ff] #[tt, tt, tt, tt, tt, tt, tt, tt, tt, tt, tt, tt, tt, tt, tt, ff, tt, tt, tt, tt, ff, tt, tt, tt, ff, ff, ff] rfl rfl rfl rfl (two_of HT_.out (by kernel_rfl)) (by decide) (by decide) (fun K hK => ?_) (fun K hK => ?_)
        ·skip
         have hcv38 := own_string (P := Tryz.prog) Tryz.underlying71 Tryz.underlying5 Tryz.underlying9 (Kd.own_of_R HO172.out)
         refine value_ (w1 := ?_) (v := ?_) (by rfl) rfl ?_ ?_
         rotate_left 2
         ·go_simp
          constructor
          ·rfl
          ·rfl
         clear hcv38
         refine hK.out _ _ ⟨(blk_cell BK167.out 0).trans rfl, (blk_cell BK167.out 1).trans rfl, (blk_cell BK167.out 2).trans rfl, (blk_cell BK167.out 3).trans rfl, (blk_cell BK167.out 4).trans rfl⟩ (fun hHeld => ?_)
         clear hK K
         refine norm_ (a' := ?_) ?_ ?_
         rotate_left
         ·show Act.put _ (some 36) _ = _
          simp only [Act.put, List.setIfInBounds_toArray, List.set_cons_zero, List.set_cons_succ, i64_w, i32_w]
          rfl
         exact norm_ (by first | (simp only [putAll, Act.put, List.setIfInBounds_toArray, List.set_cons_zero, List.set_cons_succ]; done) | (simp only [putAll, Act.put, List.setIfInBounds_toArray, List.set_cons_zero, List.set_cons_succ]; rfl)) (hJ14_15 (v171) _ ⟨hHeld, (by (with_reducible repeat (first | apply Kd.R_alloc | apply Kd.R_drewN | apply Kd.R_drew)); exact HO172.out), (bk BK167), bA⟩)
        ·skip
         refine goes_ Tryz.func36 (by kernel_rfl) rfl #[.int .u32 ((a0_3) % 4294967296)] (by rfl) rfl rfl aO ?_
         with_reducible refine (withyref01_Four.calls ((a0_3) % 4294967296) t173 _ A12.out).mono ?_
         rintro e w38 ⟨rfl, hb⟩
         refine ⟨_, rfl, ?_⟩
         replace HO172 := as_ (Kd.R_below (by (with_reducible repeat (first | apply Kd.R_alloc | apply Kd.R_drewN | apply Kd.R_drew)); exact HO172.out) hb)
         replace BK167 := bb BK167 hb
         replace HB := as_ (below_step bA hb)
         (try clear hb)
         (try clear hb2)
         (try clear hk)
         (try clear hi)
         refine hK.out _ _ ⟨(blk_cell BK167.out 0).trans rfl, (blk_cell BK167.out 1).trans rfl, (blk_cell BK167.out 2).trans rfl, (blk_cell BK167.out 3).trans rfl, (blk_cell BK167.out 4).trans rfl⟩ (fun hHeld => ?_)
         clear hK K
         refine norm_ (a' := ?_) ?_ ?_
         rotate_left
         ·show Act.put _ (some 40) _ = _
          simp only [Act.put, List.setIfInBounds_toArray, List.set_cons_zero, List.set_cons_succ, i64_w, i32_w]
          rfl
         exact norm_ (by first | (simp only [putAll, Act.put, List.setIfInBounds_toArray, List.set_cons_zero, List.set_cons_succ]; done) | (simp only [putAll, Act.put, List.setIfInBounds_toArray, List.set_cons_zero, List.set_cons_succ]; rfl)) (hJ14_19 (v171) _ ⟨hHeld, (by (with_reducible repeat (first | apply Kd.R_alloc | apply Kd.R_drewN | apply Kd.R_drew)); exact HO172.out), (bk BK167), bA⟩)
      ·skip
       rintro _ w37 ⟨hS_, h0_, h1_⟩
       have n0_ : Aside0 (w37.heap[gb167]? = some (.cells #[.int .i64 a0_0, .int .i64 a0_1, .int .i64 a0_2, .int .i64 a0_3, .int .i64 a0_4] 50 (0, 0))) := ⟨h0_⟩
       have n1_ : Aside0 (Below w.heap.size w w37) := ⟨h1_⟩
       clear BK167
       clear HB
       clear h0_ h1_
       have BK167 := n0_
       have HB := n1_
       clear n0_ n1_
       have hHeld : w37.cell? ⟨gb167, 0, none⟩ = some (.int .i64 a0_0) ∧ w37.cell? ⟨gb167, 1, none⟩ = some (.int .i64 a0_1) ∧ w37.cell? ⟨gb167, 2, none⟩ = some (.int .i64 a0_2) ∧ w37.cell? ⟨gb167, 3, none⟩ = some (.int .i64 a0_3) ∧ w37.cell? ⟨gb167, 4, none⟩ = some (.int .i64 a0_4) := hS_
       refine norm_ (a' := ?_) ?_ ?_
       rotate_left
       ·simp only [putAll, Act.put, List.setIfInBounds_toArray, List.set_cons_zero, List.set_cons_succ]
        rfl
       refine one_ (i := 14) (N := some 35) #[tt, tt, tt, tt, tt, tt, tt, tt, tt, tt, tt, tt, tt, tt, tt, ff, tt, tt, tt, tt, ff, tt, tt, tt, tt, ff, ff] rfl rfl (one_of HT_.out (by kernel_rfl)) (by decide) (fun K hK => ?_)
       refine Kd.R_lit_step (Kd.int .u8) _ 5 ?hg (N := 35) ?hd (xs := ([(a0_0) % 256, (a0_1) % 256, (Int.tmod a0_2 256) % 256, (wrap64 (Int.tdiv a0_2 256)) % 256] : List Int)) (inner := [.int .u8 ((a0_0) % 256), .int .u8 ((a0_1) % 256), .int .u8 ((Int.tmod a0_2 256) % 256), .int .u8 ((wrap64 (Int.tdiv a0_2 256)) % 256)]) (ok := fun _ => True) (okp := fun _ => True) ?hr ?hp (fun _ hk => hk) trivial (Below.refl _ _) (Nat.le_refl _) (by simp) ?_; (case hd => rfl); (case hg => rfl); (case hr => first | (go_simp; done) | (go_simp; rfl)); (case hp => exact (Reps.one (show Kd.M (Kd.int .u8) _ _ _ ((a0_0) % 256) [.int .u8 ((a0_0) % 256)] from rfl) (Reps.one (show Kd.M (Kd.int .u8) _ _ _ ((a0_1) % 256) [.int .u8 ((a0_1) % 256)] from rfl) (Reps.one (show Kd.M (Kd.int .u8) _ _ _ ((Int.tmod a0_2 256) % 256) [.int .u8 ((Int.tmod a0_2 256) % 256)] from rfl) (Reps.one (show Kd.M (Kd.int .u8) _ _ _ ((wrap64 (Int.tdiv a0_2 256)) % 256) [.int .u8 ((wrap64 (Int.tdiv a0_2 256)) % 256)] from rfl) (Reps.none _ _))))))
       intro v171 w38 ho39 hb hg_ hnew_
       clear hg_ hnew_
       (first | rw [← Ny170.out] at ho39 | (simp only [Int.reduceToNat] at ho39; rw [← Ny170.out] at ho39))
       have HO172 := as_ (Kd.R_lower ho39 (below_size bA))
       replace BK167 := bb BK167 hb
       replace HB := as_ (below_step bA hb)
       clear hb ho39
       refine hK.out _ _ ⟨(blk_cell BK167.out 0).trans rfl, (blk_cell BK167.out 1).trans rfl, (blk_cell BK167.out 2).trans rfl, (blk_cell BK167.out 3).trans rfl, (blk_cell BK167.out 4).trans rfl⟩ (fun hHeld => ?_)
       clear hK K
       refine norm_ (a' := ?_) ?_ ?_
       rotate_left
       ·show Act.put _ (some 35) _ = _
        simp only [Act.put, List.setIfInBounds_toArray, List.set_cons_zero, List.set_cons_succ, i64_w, i32_w]
        rfl
       exact norm_ (by first | (simp only [putAll, Act.put, List.setIfInBounds_toArray, List.set_cons_zero, List.set_cons_succ]; done) | (simp only [putAll, Act.put, List.setIfInBounds_toArray, List.set_cons_zero, List.set_cons_succ]; rfl)) (hJ14_19_24 (v171) _ ⟨hHeld, (by (with_reducible repeat (first | apply Kd.R_alloc | apply Kd.R_drewN | apply Kd.R_drew)); exact HO172.out), (bk BK167), bA⟩)
     ·skip
      rintro v171 w38 ⟨hS_, h0_, h1_, h2_⟩
      have n0_ : Aside0 (Kd.R (Kd.int .u8) 5 w38 w.heap.size (fun _ => True) v171 y170) := ⟨h0_⟩
      have n1_ : Aside0 (w38.heap[gb167]? = some (.cells #[.int .i64 a0_0, .int .i64 a0_1, .int .i64 a0_2, .int .i64 a0_3, .int .i64 a0_4] 50 (0, 0))) := ⟨h1_⟩
      have n2_ : Aside0 (Below w.heap.size w w38) := ⟨h2_⟩
      clear BK167
      clear HB
      clear h0_ h1_ h2_
      have HO172 := n0_
      have BK167 := n1_
      have HB := n2_
      clear n0_ n1_ n2_
      have hHeld : w38.cell? ⟨gb167, 0, none⟩ = some (.int .i64 a0_0) ∧ w38.cell? ⟨gb167, 1, none⟩ = some (.int .i64 a0_1) ∧ w38.cell? ⟨gb167, 2, none⟩ = some (.int .i64 a0_2) ∧ w38.cell? ⟨gb167, 3, none⟩ = some (.int .i64 a0_3) ∧ w38.cell? ⟨gb167, 4, none⟩ = some (.int .i64 a0_4) := hS_
      refine norm_ (a' := ?_) ?_ ?_
      rotate_left
      ·simp only [putAll, Act.put, List.setIfInBounds_toArray, List.set_cons_zero, List.set_cons_succ]
       rfl
      refine two_ (i := 15) (j := 24) (Ni := some 36) (Nj := some 45) #[tt, tt, tt, tt, tt, tt, tt, tt, tt, tt, tt, tt, tt, tt, tt, tt, tt, tt, tt, tt, ff, tt, tt, tt, ff, ff, ff] #[tt, tt, tt, tt, tt, tt, tt, tt, tt, tt, tt, tt, tt, tt, tt, ff, tt, tt, tt, tt, ff, tt, tt, tt, tt, ff, ff] rfl rfl rfl rfl (two_of HT_.out (by kernel_rfl)) (by decide) (by decide) (fun K hK => ?_) (fun K hK => ?_)
      ·skip
       have hcv39 := own_string (P := Tryz.prog) Tryz.underlying71 Tryz.underlying5 Tryz.underlying9 (Kd.own_of_R HO172.out)
       refine value_ (w1 := ?_) (v := ?_) (by rfl) rfl ?_ ?_
       rotate_left 2
       ·go_simp
        constructor
        ·rfl
        ·rfl
       clear hcv39
       refine hK.out _ _ ⟨(blk_cell BK167.out 0).trans rfl, (blk_cell BK167.out 1).trans rfl, (blk_cell BK167.out 2).trans rfl, (blk_cell BK167.out 3).trans rfl, (blk_cell BK167.out 4).trans rfl⟩ (fun hHeld => ?_)
       clear hK K
       refine norm_ (a' := ?_) ?_ ?_
       rotate_left
       ·show Act.put _ (some 36) _ = _
        simp only [Act.put, List.setIfInBounds_toArray, List.set_cons_zero, List.set_cons_succ, i64_w, i32_w]
        rfl
       refine pure_ (i := 20) (N := some 41) (v := ?_) (a' := ?_) #[tt, tt, tt, tt, tt, tt, tt, tt, tt, tt, tt, tt, tt, tt, tt, tt, tt, tt, tt, tt, tt, tt, tt, tt, ff, ff, ff] rfl rfl (any_of HT_.out (by kernel_rfl)) (fun _ _ _ h => h) (Or.inl ⟨by rfl, ?_⟩) ?_ ?_
       rotate_left
       ·intro w'
        go_simp
        with_reducible rfl
       rotate_left
       ·exact aP
       exact norm_ (by first | (simp only [putAll, Act.put, List.setIfInBounds_toArray, List.set_cons_zero, List.set_cons_succ]; done) | (simp only [putAll, Act.put, List.setIfInBounds_toArray, List.set_cons_zero, List.set_cons_succ]; rfl)) (hJ14_15_19 (v171) _ ⟨hHeld, (by (with_reducible repeat (first | apply Kd.R_alloc | apply Kd.R_drewN | apply Kd.R_drew)); exact HO172.out), (bk BK167), bA⟩)
      ·skip
       refine goes_ Tryz.func36 (by kernel_rfl) rfl #[.int .u32 ((a0_4) % 4294967296)] (by rfl) rfl rfl aO ?_
       with_reducible refine (withyref01_Four.calls ((a0_4) % 4294967296) t174 _ A15.out).mono ?_
       rintro e w39 ⟨rfl, hb⟩
       refine ⟨_, rfl, ?_⟩
       replace HO172 := as_ (Kd.R_below (by (with_reducible repeat (first | apply Kd.R_alloc | apply Kd.R_drewN | apply Kd.R_drew)); exact HO172.out) hb)
       replace BK167 := bb BK167 hb
       replace HB := as_ (below_step bA hb)
       (try clear hb)
       (try clear hb2)
       (try clear hk)
       (try clear hi)
       refine hK.out _ _ ⟨(blk_cell BK167.out 0).trans rfl, (blk_cell BK167.out 1).trans rfl, (blk_cell BK167.out 2).trans rfl, (blk_cell BK167.out 3).trans rfl, (blk_cell BK167.out 4).trans rfl⟩ (fun hHeld => ?_)
       clear hK K
       refine norm_ (a' := ?_) ?_ ?_
       rotate_left
       ·show Act.put _ (some 45) _ = _
        simp only [Act.put, List.setIfInBounds_toArray, List.set_cons_zero, List.set_cons_succ, i64_w, i32_w]
        rfl
       exact norm_ (by first | (simp only [putAll, Act.put, List.setIfInBounds_toArray, List.set_cons_zero, List.set_cons_succ]; done) | (simp only [putAll, Act.put, List.setIfInBounds_toArray, List.set_cons_zero, List.set_cons_succ]; rfl)) (hJ14_19_24 (v171) _ ⟨hHeld, (by (with_reducible repeat (first | apply Kd.R_alloc | apply Kd.R_drewN | apply Kd.R_drew)); exact HO172.out), (bk BK167), bA⟩)
    ·skip
     rintro v171 w38 ⟨hS_, h0_, h1_, h2_⟩
     have n0_ : Aside0 (Kd.R (Kd.int .u8) 5 w38 w.heap.size (fun _ => True) v171 y170) := ⟨h0_⟩
     have n1_ : Aside0 (w38.heap[gb167]? = some (.cells #[.int .i64 a0_0, .int .i64 a0_1, .int .i64 a0_2, .int .i64 a0_3, .int .i64 a0_4] 50 (0, 0))) := ⟨h1_⟩
     have n2_ : Aside0 (Below w.heap.size w w38) := ⟨h2_⟩
     clear BK167
     clear HB
     clear h0_ h1_ h2_
     have HO172 := n0_
     have BK167 := n1_
     have HB := n2_
     clear n0_ n1_ n2_
     have hHeld : w38.cell? ⟨gb167, 0, none⟩ = some (.int .i64 a0_0) ∧ w38.cell? ⟨gb167, 1, none⟩ = some (.int .i64 a0_1) ∧ w38.cell? ⟨gb167, 2, none⟩ = some (.int .i64 a0_2) ∧ w38.cell? ⟨gb167, 3, none⟩ = some (.int .i64 a0_3) ∧ w38.cell? ⟨gb167, 4, none⟩ = some (.int .i64 a0_4) := hS_
     refine norm_ (a' := ?_) ?_ ?_
     rotate_left
     ·simp only [putAll, Act.put, List.setIfInBounds_toArray, List.set_cons_zero, List.set_cons_succ]
      rfl
     refine one_ (i := 19) (N := some 40) #[tt, tt, tt, tt, tt, tt, tt, tt, tt, tt, tt, tt, tt, tt, tt, tt, tt, tt, tt, tt, ff, tt, tt, tt, ff, ff, ff] rfl rfl (one_of HT_.out (by kernel_rfl)) (by decide) (fun K hK => ?_)
     refine goes_ Tryz.func36 (by kernel_rfl) rfl #[.int .u32 ((a0_3) % 4294967296)] (by rfl) rfl rfl aO ?_
     with_reducible refine (withyref01_Four.calls ((a0_3) % 4294967296) t173 _ A12.out).mono ?_
     rintro e w39 ⟨rfl, hb⟩
     refine ⟨_, rfl, ?_⟩
     replace HO172 := as_ (Kd.R_below (by (with_reducible repeat (first | apply Kd.R_alloc | apply Kd.R_drewN | apply Kd.R_drew)); exact HO172.out) hb)
     replace BK167 := bb BK167 hb
     replace HB := as_ (below_step bA hb)
     (try clear hb)
     (try clear hb2)
     (try clear hk)
     (try clear hi)
     refine hK.out _ _ ⟨(blk_cell BK167.out 0).trans rfl, (blk_cell BK167.out 1).trans rfl, (blk_cell BK167.out 2).trans rfl, (blk_cell BK167.out 3).trans rfl, (blk_cell BK167.out 4).trans rfl⟩ (fun hHeld => ?_)
     clear hK K
     refine norm_ (a' := ?_) ?_ ?_
     rotate_left
     ·show Act.put _ (some 40) _ = _
      simp only [Act.put, List.setIfInBounds_toArray, List.set_cons_zero, List.set_cons_succ, i64_w, i32_w]
      rfl
     refine pure_ (i := 20) (N := some 41) (v := ?_) (a' := ?_) #[tt, tt, tt, tt, tt, tt, tt, tt, tt, tt, tt, tt, tt, tt, tt, tt, tt, tt, tt, tt, tt, tt, tt, tt, ff, ff, ff] rfl rfl (any_of HT_.out (by kernel_rfl)) (fun _ _ _ h => h) (Or.inl ⟨by rfl, ?_⟩) ?_ ?_
     rotate_left
     ·intro w'
      go_simp
      with_reducible rfl
     rotate_left
     ·exact aP
     exact norm_ (by first | (simp only [putAll, Act.put, List.setIfInBounds_toArray, List.set_cons_zero, List.set_cons_succ]; done) | (simp only [putAll, Act.put, List.setIfInBounds_toArray, List.set_cons_zero, List.set_cons_succ]; rfl)) (hJ14_15_19 (v171) _ ⟨hHeld, (by (with_reducible repeat (first | apply Kd.R_alloc | apply Kd.R_drewN | apply Kd.R_drew)); exact HO172.out), (bk BK167), bA⟩)
   ·skip
    rintro v171 w39 ⟨hS_, h0_, h1_, h2_⟩
    have n0_ : Aside0 (Kd.R (Kd.int .u8) 5 w39 w.heap.size (fun _ => True) v171 y170) := ⟨h0_⟩
    have n1_ : Aside0 (w39.heap[gb167]? = some (.cells #[.int .i64 a0_0, .int .i64 a0_1, .int .i64 a0_2, .int .i64 a0_3, .int .i64 a0_4] 50 (0, 0))) := ⟨h1_⟩
    have n2_ : Aside0 (Below w.heap.size w w39) := ⟨h2_⟩
    clear BK167
    clear HB
    clear h0_ h1_ h2_
    have HO172 := n0_
    have BK167 := n1_
    have HB := n2_
    clear n0_ n1_ n2_
    have hHeld : w39.cell? ⟨gb167, 0, none⟩ = some (.int .i64 a0_0) ∧ w39.cell? ⟨gb167, 1, none⟩ = some (.int .i64 a0_1) ∧ w39.cell? ⟨gb167, 2, none⟩ = some (.int .i64 a0_2) ∧ w39.cell? ⟨gb167, 3, none⟩ = some (.int .i64 a0_3) ∧ w39.cell? ⟨gb167, 4, none⟩ = some (.int .i64 a0_4) := hS_
    refine norm_ (a' := ?_) ?_ ?_
    rotate_left
    ·simp only [putAll, Act.put, List.setIfInBounds_toArray, List.set_cons_zero, List.set_cons_succ]
     rfl
    refine one_ (i := 15) (N := some 36) #[tt, tt, tt, tt, tt, tt, tt, tt, tt, tt, tt, tt, tt, tt, tt, tt, tt, tt, tt, tt, ff, tt, tt, tt, tt, ff, ff] rfl rfl (one_of HT_.out (by kernel_rfl)) (by decide) (fun K hK => ?_)
    have hcv40 := own_string (P := Tryz.prog) Tryz.underlying71 Tryz.underlying5 Tryz.underlying9 (Kd.own_of_R HO172.out)
    refine value_ (w1 := ?_) (v := ?_) (by rfl) rfl ?_ ?_
    rotate_left 2
    ·go_simp
     constructor
     ·rfl
     ·rfl
    clear hcv40
    refine hK.out _ _ ⟨(blk_cell BK167.out 0).trans rfl, (blk_cell BK167.out 1).trans rfl, (blk_cell BK167.out 2).trans rfl, (blk_cell BK167.out 3).trans rfl, (blk_cell BK167.out 4).trans rfl⟩ (fun hHeld => ?_)
    clear hK K
    refine norm_ (a' := ?_) ?_ ?_
    rotate_left
    ·show Act.put _ (some 36) _ = _
     simp only [Act.put, List.setIfInBounds_toArray, List.set_cons_zero, List.set_cons_succ, i64_w, i32_w]
     rfl
    refine pure_ (i := 20) (N := some 41) (v := ?_) (a' := ?_) #[tt, tt, tt, tt, tt, tt, tt, tt, tt, tt, tt, tt, tt, tt, tt, tt, tt, tt, tt, tt, tt, tt, tt, tt, tt, ff, ff] rfl rfl (any_of HT_.out (by kernel_rfl)) (fun _ _ _ h => h) (Or.inl ⟨by rfl, ?_⟩) ?_ ?_
    rotate_left
    ·intro w'
     go_simp
     with_reducible rfl
    rotate_left
    ·exact aP
    exact norm_ (by first | (simp only [putAll, Act.put, List.setIfInBounds_toArray, List.set_cons_zero, List.set_cons_succ]; done) | (simp only [putAll, Act.put, List.setIfInBounds_toArray, List.set_cons_zero, List.set_cons_succ]; rfl)) (hJ14_15_19_24 (v171) _ ⟨hHeld, (by (with_reducible repeat (first | apply Kd.R_alloc | apply Kd.R_drewN | apply Kd.R_drew)); exact HO172.out), (bk BK167), bA⟩)
  ·skip
   rintro v171 w39 ⟨hS_, h0_, h1_, h2_⟩
   have n0_ : Aside0 (Kd.R (Kd.int .u8) 5 w39 w.heap.size (fun _ => True) v171 y170) := ⟨h0_⟩
   have n1_ : Aside0 (w39.heap[gb167]? = some (.cells #[.int .i64 a0_0, .int .i64 a0_1, .int .i64 a0_2, .int .i64 a0_3, .int .i64 a0_4] 50 (0, 0))) := ⟨h1_⟩
   have n2_ : Aside0 (Below w.heap.size w w39) := ⟨h2_⟩
   clear BK167
   clear HB
   clear h0_ h1_ h2_
   have HO172 := n0_
   have BK167 := n1_
   have HB := n2_
   clear n0_ n1_ n2_
   have hHeld : w39.cell? ⟨gb167, 0, none⟩ = some (.int .i64 a0_0) ∧ w39.cell? ⟨gb167, 1, none⟩ = some (.int .i64 a0_1) ∧ w39.cell? ⟨gb167, 2, none⟩ = some (.int .i64 a0_2) ∧ w39.cell? ⟨gb167, 3, none⟩ = some (.int .i64 a0_3) ∧ w39.cell? ⟨gb167, 4, none⟩ = some (.int .i64 a0_4) := hS_
   refine norm_ (a' := ?_) ?_ ?_
   rotate_left
   ·simp only [putAll, Act.put, List.setIfInBounds_toArray, List.set_cons_zero, List.set_cons_succ]
    rfl
   refine one_ (i := 24) (N := some 45) #[tt, tt, tt, tt, tt, tt, tt, tt, tt, tt, tt, tt, tt, tt, tt, tt, tt, tt, tt, tt, tt, tt, tt, tt, tt, ff, ff] rfl rfl (one_of HT_.out (by kernel_rfl)) (by decide) (fun K hK => ?_)
   refine goes_ Tryz.func36 (by kernel_rfl) rfl #[.int .u32 ((a0_4) % 4294967296)] (by rfl) rfl rfl aO ?_
   with_reducible refine (withyref01_Four.calls ((a0_4) % 4294967296) t174 _ A15.out).mono ?_
   rintro e w40 ⟨rfl, hb⟩
   refine ⟨_, rfl, ?_⟩
   replace HO172 := as_ (Kd.R_below (by (with_reducible repeat (first | apply Kd.R_alloc | apply Kd.R_drewN | apply Kd.R_drew)); exact HO172.out) hb)
   replace BK167 := bb BK167 hb
   replace HB := as_ (below_step bA hb)
   (try clear hb)
   (try clear hb2)
   (try clear hk)
   (try clear hi)
   refine hK.out _ _ ⟨(blk_cell BK167.out 0).trans rfl, (blk_cell BK167.out 1).trans rfl, (blk_cell BK167.out 2).trans rfl, (blk_cell BK167.out 3).trans rfl, (blk_cell BK167.out 4).trans rfl⟩ (fun hHeld => ?_)
   clear hK K
   refine norm_ (a' := ?_) ?_ ?_
   rotate_left
   ·show Act.put _ (some 45) _ = _
    simp only [Act.put, List.setIfInBounds_toArray, List.set_cons_zero, List.set_cons_succ, i64_w, i32_w]
    rfl
   exact norm_ (by first | (simp only [putAll, Act.put, List.setIfInBounds_toArray, List.set_cons_zero, List.set_cons_succ]; done) | (simp only [putAll, Act.put, List.setIfInBounds_toArray, List.set_cons_zero, List.set_cons_succ]; rfl)) (hJ14_15_19_24 (v171) _ ⟨hHeld, (by (with_reducible repeat (first | apply Kd.R_alloc | apply Kd.R_drewN | apply Kd.R_drew)); exact HO172.out), (bk BK167), bA⟩)
 rintro v171 w40 ⟨hS_, h0_, h1_, h2_⟩
 have n0_ : Aside0 (Kd.R (Kd.int .u8) 5 w40 w.heap.size (fun _ => True) v171 y170) := ⟨h0_⟩
 have n1_ : Aside0 (w40.heap[gb167]? = some (.cells #[.int .i64 a0_0, .int .i64 a0_1, .int .i64 a0_2, .int .i64 a0_3, .int .i64 a0_4] 50 (0, 0))) := ⟨h1_⟩
 have n2_ : Aside0 (Below w.heap.size w w40) := ⟨h2_⟩
 clear BK167
 clear HB
 clear h0_ h1_ h2_
 have HO172 := n0_
 have BK167 := n1_
 have HB := n2_
 clear n0_ n1_ n2_
 have hHeld : w40.cell? ⟨gb167, 0, none⟩ = some (.int .i64 a0_0) ∧ w40.cell? ⟨gb167, 1, none⟩ = some (.int .i64 a0_1) ∧ w40.cell? ⟨gb167, 2, none⟩ = some (.int .i64 a0_2) ∧ w40.cell? ⟨gb167, 3, none⟩ = some (.int .i64 a0_3) ∧ w40.cell? ⟨gb167, 4, none⟩ = some (.int .i64 a0_4) := hS_
 refine norm_ (a' := ?_) ?_ ?_
 rotate_left
 ·simp only [putAll, Act.put, List.setIfInBounds_toArray, List.set_cons_zero, List.set_cons_succ]
  rfl
 refine pure_ (i := 25) (N := some 46) (v := ?_) (a' := ?_) #[tt, tt, tt, tt, tt, tt, tt, tt, tt, tt, tt, tt, tt, tt, tt, tt, tt, tt, tt, tt, tt, tt, tt, tt, tt, tt, ff] rfl rfl (any_of HT_.out (by kernel_rfl)) (fun _ _ _ h => h) (Or.inl ⟨by rfl, ?_⟩) ?_ ?_
 rotate_left
 ·intro w'
  go_simp
  with_reducible rfl
 rotate_left
 ·exact aP
 refine pure_ (i := 26) (N := some 8) (v := ?_) (a' := ?_) #[tt, tt, tt, tt, tt, tt, tt, tt, tt, tt, tt, tt, tt, tt, tt, tt, tt, tt, tt, tt, tt, tt, tt, tt, tt, tt, tt] rfl rfl (any_of HT_.out (by kernel_rfl)) (fun _ _ _ h => h) (Or.inl ⟨by rfl, ?_⟩) ?_ ?_
 rotate_left
 ·intro w'
  go_simp
  with_reducible rfl
 rotate_left
 ·exact aP
 refine done_ (done_of HT_.out (by kernel_rfl)) ?_
 try go_wp2_with (first | ((with_reducible refine gate_callee (f := 26) rfl ?_); refine goesL_ (some 53) rfl rfl Tryz.func26 (by kernel_rfl) rfl #[.int .u8 0, .int .i64 (wrap64 ((wrap64 (a2 - 16)) - (a1.size : Int)))] rfl aO ?_; (with_reducible refine (withyref01_Repeat.calls k 0 (wrap64 ((wrap64 (a2 - 16)) - (a1.size : Int))) t175 _ A18.out).mono ?_); rintro e w41 ⟨rfl, hb⟩; refine ⟨_, rfl, ?_⟩; replace HO172 := as_ (Kd.R_below (by (with_reducible repeat (first | apply Kd.R_alloc | apply Kd.R_drewN | apply Kd.R_drew)); exact HO172.out) hb); replace BK167 := bb BK167 hb; replace HB := as_ (below_step bA hb); (try clear hb); (try clear hb2); (try clear hk); (try clear hi)) | ((with_reducible refine gate_callee (f := 37) rfl ?_); refine goesL_ (some 60) rfl rfl Tryz.func37 (by kernel_rfl) rfl #[.string js24] rfl aO ?_; (with_reducible refine (withyref02_Sum.calls k js24 t176 _ A25.out).mono ?_); rintro e w' ⟨rfl, ⟨nd, rfl⟩⟩; refine ⟨_, rfl, ?_⟩) | ((with_reducible refine gate_callee (f := 36) rfl ?_); refine goesL_ (some 61) rfl rfl Tryz.func36 (by kernel_rfl) rfl #[.int .u32 t176] rfl aO ?_; (with_reducible refine (withyref01_Four.calls t176 t177 _ A26.out).mono ?_); rintro e w42 ⟨rfl, hb⟩; refine ⟨_, rfl, ?_⟩; replace HO172 := as_ (Kd.R_below (by (with_reducible repeat (first | apply Kd.R_alloc | apply Kd.R_drewN | apply Kd.R_drew)); exact HO172.out) hb); replace BK167 := bb BK167 hb; replace HB := as_ (below_step bA hb); (try clear hb); (try clear hb2); (try clear hk); (try clear hi)))
 go_ret2
 exact ⟨by first | rfl | (simp [errW_none, errW_some] <;> rfl) | (simp only [← hjs14, ← hjs17, ← hjs20, ← hjs22, ← hjs24, ← hjs28, ← hjs30]; first | rfl | (simp [errW_none, errW_some] <;> rfl)) | (simp [*, errW_none, errW_some] <;> rfl), by repeat (first | (with_reducible first | exact HB.out | apply below_alloc | apply pw_below_drewN | apply below_drew1 | refine below_set ?_ GE167.out) | exact HB.out)⟩
/-! ### withyref12_Encode: function 6 -/
def withyref12_Encode.f (k : Nat) (a0_0 : Int) (a0_1 : Int) (a0_2 : ByteArray) (a1 : Int) : Option (ByteArray × Int) := (withyref06_Size.f a1).bind fun t179 => (if t179 = true then ((withyref12_May.f a0_0 a0_1 a0_2 a1).bind fun t180 => (if t180 = true then ((withyref07_Seal.f k 4 0 (a0_2.size : Int) a0_1 a0_0 a0_2 a1).bind fun bt181 => (some (bt181.1, bt181.2))) else (some ((⟨#[]⟩ : ByteArray), 3)))) else (some ((⟨#[]⟩ : ByteArray), 4)))
theorem withyref12_Encode.mono : ∀ a0 a1 a2 a3 k, LeO (withyref12_Encode.f k a0 a1 a2 a3) (withyref12_Encode.f (k + 1) a0 a1 a2 a3) := by
 intro a0 a1 a2 a3 k
 unfold withyref12_Encode.f
 repeat' first
   | (with_reducible exact withyref07_Seal.mono _ _ _ _ _ _ _ _)
   | (with_reducible exact LeO.refl _)
   | (with_reducible exact LeO.none _)
   | (with_reducible refine LeO.ite ?_ ?_)
   | (with_reducible refine LeO.bind ?_ (fun _ => ?_))
   | exact withyref07_Seal.mono _ _ _ _ _ _ _ _
   | exact LeO.none _
   | refine LeO.ite ?_ ?_
   | refine LeO.bind ?_ (fun _ => ?_)
set_option maxHeartbeats 8000000 in
set_option maxRecDepth 100000 in
theorem withyref12_Encode.calls (k : Nat) (a0_0 : Int) (a0_1 : Int) (a0_2 : ByteArray) (a1 : Int) (r1 : ByteArray) (r2 : Int) (w : World) (h : withyref12_Encode.f k a0_0 a0_1 a0_2 a1 = some (r1, r2)) :
  Calls Tryz.prog 6 #[.agg #[.int .i64 a0_0, .int .i64 a0_1, .string a0_2], .int .i64 a1] w fun e w' => e = .returned (.tuple #[.string r1, .int .i64 r2]) ∧ Below w.heap.size w w' := by
 have hu31 := Tryz.underlying31
 have hu50 := Tryz.underlying50
 have HB := as_ (Below.refl w.heap.size w)
 have H : ((withyref06_Size.f a1).bind fun t179 => (if t179 = true then ((withyref12_May.f a0_0 a0_1 a0_2 a1).bind fun t180 => (if t180 = true then ((withyref07_Seal.f k 4 0 (a0_2.size : Int) a0_1 a0_0 a0_2 a1).bind fun bt181 => (some (bt181.1, bt181.2))) else (some ((⟨#[]⟩ : ByteArray), 3)))) else (some ((⟨#[]⟩ : ByteArray), 4)))) = some (r1, r2) := h
 clear h
 replace H := bM H
 obtain ⟨t179, A30, H⟩ := H
 replace H : (if t179 = true then ((withyref12_May.f a0_0 a0_1 a0_2 a1).bind fun t180 => (if t180 = true then ((withyref07_Seal.f k 4 0 (a0_2.size : Int) a0_1 a0_0 a0_2 a1).bind fun bt181 => (some (bt181.1, bt181.2))) else (some ((⟨#[]⟩ : ByteArray), 3)))) else (some ((⟨#[]⟩ : ByteArray), 4))) = some (r1, r2) := H
 have A3 := Aside0.mk A30
 clear A30
 by_cases c4 : t179 = true
 rotate_left
 ·replace c4 := Bool.eq_false_iff.mpr c4
  subst c4
  have H1 : (some ((⟨#[]⟩ : ByteArray), 4)) = some (r1, r2) := by rw [if_neg (show ¬ (false = true) by decide)] at H; exact H
  clear H
  have H := H1
  clear H1
  simp only [Option.some.injEq, Prod.mk.injEq] at H
  obtain ⟨rfl, rfl⟩ := H
  go_enter Tryz.func6, Tryz.ntmps6
  go_wp2_with (first | ((with_reducible refine gate_dst (N := 2) rfl ?_); refine box_event (by rfl) (N := 2) (by rfl) (cs := #[.int .i64 a0_0, .int .i64 a0_1, .string a0_2]) (t := 31) gS ?_; intro gb178 hg w16 hbox hb; have BK178 := as_ (hbox); have GW178 := gw hg bA; have GE178 := gw hg bA; replace HB := as_ (below_step bA hb); clear hb hbox hg) | ((with_reducible refine gate_callee (f := 12) rfl ?_); refine goesL_ (some 7) rfl rfl Tryz.func12 (by kernel_rfl) rfl #[.int .i64 a1] rfl aO ?_; (with_reducible refine (withyref06_Size.calls a1 false _ A3.out).mono ?_); rintro e w' ⟨rfl, ⟨nd, rfl⟩⟩; refine ⟨_, rfl, ?_⟩))
  go_ret2
  exact ⟨eW, by repeat (first | (with_reducible first | exact HB.out | apply below_alloc | apply pw_below_drewN | apply below_drew1 | refine below_set ?_ GE178.out) | exact HB.out)⟩
 
 subst c4
 have H1 : ((withyref12_May.f a0_0 a0_1 a0_2 a1).bind fun t180 => (if t180 = true then ((withyref07_Seal.f k 4 0 (a0_2.size : Int) a0_1 a0_0 a0_2 a1).bind fun bt181 => (some (bt181.1, bt181.2))) else (some ((⟨#[]⟩ : ByteArray), 3)))) = some (r1, r2) := by rw [if_pos rfl] at H; exact H
 clear H
 have H := H1
 clear H1
 replace H := bM H
 obtain ⟨t180, A50, H⟩ := H
 replace H : (if t180 = true then ((withyref07_Seal.f k 4 0 (a0_2.size : Int) a0_1 a0_0 a0_2 a1).bind fun bt181 => (some (bt181.1, bt181.2))) else (some ((⟨#[]⟩ : ByteArray), 3))) = some (r1, r2) := H
 have A5 := Aside0.mk A50
 clear A50
 by_cases c6 : t180 = true
 rotate_left
 ·replace c6 := Bool.eq_false_iff.mpr c6
  subst c6
  have H1 : (some ((⟨#[]⟩ : ByteArray), 3)) = some (r1, r2) := by rw [if_neg (show ¬ (false = true) by decide)] at H; exact H
  clear H
  have H := H1
  clear H1
  simp only [Option.some.injEq, Prod.mk.injEq] at H
  obtain ⟨rfl, rfl⟩ := H
  go_enter Tryz.func6, Tryz.ntmps6
  go_wp2_with (first | ((with_reducible refine gate_dst (N := 2) rfl ?_); refine box_event (by rfl) (N := 2) (by rfl) (cs := #[.int .i64 a0_0, .int .i64 a0_1, .string a0_2]) (t := 31) gS ?_; intro gb178 hg w13 hbox hb; have BK178 := as_ (hbox); have GW178 := gw hg bA; have GE178 := gw hg bA; replace HB := as_ (below_step bA hb); clear hb hbox hg) | ((with_reducible refine gate_callee (f := 12) rfl ?_); refine goesL_ (some 7) rfl rfl Tryz.func12 (by kernel_rfl) rfl #[.int .i64 a1] rfl aO ?_; (with_reducible refine (withyref06_Size.calls a1 true _ A3.out).mono ?_); rintro e w' ⟨rfl, ⟨nd, rfl⟩⟩; refine ⟨_, rfl, ?_⟩; obtain ⟨hcz14_0, hcz14_1, hcz14_2⟩ := zc3 BK178; obtain ⟨hfz14_0, hfz14_1, hfz14_2⟩ := zf3 BK178) | ((with_reducible refine gate_callee (f := 11) rfl ?_); refine goesL_ (some 11) rfl rfl Tryz.func11 (by kernel_rfl) rfl #[.agg #[.int .i64 a0_0, .int .i64 a0_1, .string a0_2], .int .i64 a1] rfl aO ?_; (with_reducible refine (withyref12_May.calls a0_0 a0_1 a0_2 a1 false _ A5.out).mono ?_); rintro e w15 ⟨rfl, hb⟩; refine ⟨_, rfl, ?_⟩; replace BK178 := bb BK178 hb; replace HB := as_ (below_step bA hb); (try clear hb); (try clear hb2); (try clear hk); (try clear hi)))
  go_ret2
  exact ⟨eW, by repeat (first | (with_reducible first | exact HB.out | apply below_alloc | apply pw_below_drewN | apply below_drew1 | refine below_set ?_ GE178.out) | exact HB.out)⟩
 subst c6
 have H1 : ((withyref07_Seal.f k 4 0 (a0_2.size : Int) a0_1 a0_0 a0_2 a1).bind fun bt181 => (some (bt181.1, bt181.2))) = some (r1, r2) := by rw [if_pos rfl] at H; exact H
 clear H
 have H := H1
 clear H1
 replace H := bM H
 obtain ⟨⟨t181, t182⟩, A70, H⟩ := H
 replace H : (some (t181, t182)) = some (r1, r2) := H
 have A7 := Aside0.mk A70
 clear A70
 simp only [Option.some.injEq, Prod.mk.injEq] at H
 obtain ⟨rfl, rfl⟩ := H
 go_enter Tryz.func6, Tryz.ntmps6
 go_wp2_with (first | ((with_reducible refine gate_dst (N := 2) rfl ?_); refine box_event (by rfl) (N := 2) (by rfl) (cs := #[.int .i64 a0_0, .int .i64 a0_1, .string a0_2]) (t := 31) gS ?_; intro gb178 hg w8 hbox hb; have BK178 := as_ (hbox); have GW178 := gw hg bA; have GE178 := gw hg bA; replace HB := as_ (below_step bA hb); clear hb hbox hg) | ((with_reducible refine gate_callee (f := 12) rfl ?_); refine goesL_ (some 7) rfl rfl Tryz.func12 (by kernel_rfl) rfl #[.int .i64 a1] rfl aO ?_; (with_reducible refine (withyref06_Size.calls a1 true _ A3.out).mono ?_); rintro e w' ⟨rfl, ⟨nd, rfl⟩⟩; refine ⟨_, rfl, ?_⟩; obtain ⟨hcz9_0, hcz9_1, hcz9_2⟩ := zc3 BK178; obtain ⟨hfz9_0, hfz9_1, hfz9_2⟩ := zf3 BK178) | ((with_reducible refine gate_callee (f := 11) rfl ?_); refine goesL_ (some 11) rfl rfl Tryz.func11 (by kernel_rfl) rfl #[.agg #[.int .i64 a0_0, .int .i64 a0_1, .string a0_2], .int .i64 a1] rfl aO ?_; (with_reducible refine (withyref12_May.calls a0_0 a0_1 a0_2 a1 true _ A5.out).mono ?_); rintro e w10 ⟨rfl, hb⟩; refine ⟨_, rfl, ?_⟩; replace BK178 := bb BK178 hb; replace HB := as_ (below_step bA hb); (try clear hb); (try clear hb2); (try clear hk); (try clear hi); obtain ⟨hcz11_0, hcz11_1, hcz11_2⟩ := zc3 BK178; obtain ⟨hfz11_0, hfz11_1, hfz11_2⟩ := zf3 BK178) | ((with_reducible refine gate_callee (f := 21) rfl ?_); refine goesL_ (some 24) rfl rfl Tryz.func21 (by kernel_rfl) rfl #[.agg #[.int .i64 4, .int .i64 0, .int .i64 (a0_2.size : Int), .int .i64 a0_1, .int .i64 a0_0], .string a0_2, .int .i64 a1] rfl aO ?_; (with_reducible refine (withyref07_Seal.calls k 4 0 (a0_2.size : Int) a0_1 a0_0 a0_2 a1 t181 t182 _ A7.out).mono ?_); rintro e w12 ⟨rfl, hb⟩; refine ⟨_, rfl, ?_⟩; replace BK178 := bb BK178 hb; replace HB := as_ (below_step bA hb); (try clear hb); (try clear hb2); (try clear hk); (try clear hi)))
 go_ret2
 exact ⟨eW, by repeat (first | (with_reducible first | exact HB.out | apply below_alloc | apply pw_below_drewN | apply below_drew1 | refine below_set ?_ GE178.out) | exact HB.out)⟩
/-! ### withylaw12_Ref: function 7 -/
def withylaw12_Ref.f (a0_0 : Int) (a0_1 : Int) (a0_2 : ByteArray) : Option (Int × Int × ByteArray) := some (a0_0, a0_1, a0_2)
set_option maxHeartbeats 8000000 in
set_option maxRecDepth 100000 in
theorem withylaw12_Ref.calls (a0_0 : Int) (a0_1 : Int) (a0_2 : ByteArray) (r1 : Int) (r2 : Int) (r3 : ByteArray) (w : World) (h : withylaw12_Ref.f a0_0 a0_1 a0_2 = some (r1, r2, r3)) :
  Calls Tryz.prog 7 #[.agg #[.int .i64 a0_0, .int .i64 a0_1, .string a0_2]] w fun e w' => e = .returned (.agg #[.int .i64 r1, .int .i64 r2, .string r3]) ∧ Below w.heap.size w w' := by
 have hu23 := Tryz.underlying23
 have hu31 := Tryz.underlying31
 have HB := as_ (Below.refl w.heap.size w)
 have H : (some (a0_0, a0_1, a0_2)) = some (r1, r2, r3) := h
 clear h
 simp only [Option.some.injEq, Prod.mk.injEq] at H
 obtain ⟨rfl, rfl, rfl⟩ := H
 go_enter Tryz.func7, Tryz.ntmps7
 go_wp2_with (first | ((with_reducible refine gate_dst (N := 1) rfl ?_); refine box_event (by rfl) (N := 1) (by rfl) (cs := #[.int .i64 a0_0, .int .i64 a0_1, .string a0_2]) (t := 23) gS ?_; intro gb183 hg w2 hbox hb; have BK183 := as_ (hbox); have GW183 := gw hg bA; have GE183 := gw hg bA; replace HB := as_ (below_step bA hb); clear hb hbox hg) | ((with_reducible refine gate_dst (N := 2) rfl ?_); refine box_event ?hg (N := 2) ?hd (cs := #[.int .i64 0, .int .i64 0, .string (⟨#[]⟩ : ByteArray)]) (t := 31) ?hr ?_; (case hd => rfl); (case hg => rfl); (case hr => first | (go_simp; done) | (go_simp; rfl)); intro gb184 hg w3 hbox hb; have BK184 := as_ (hbox); have GW184 := gw hg bA; have GE184 := gw hg bA; have NB183_184 := nl BK183 hg; have NB184_183 := ng BK183 hg; replace BK183 := bb BK183 hb; replace HB := as_ (below_step bA hb); clear hb hbox hg; have hnb4 := NB183_184.out; have hnc4 := NB184_183.out; obtain ⟨hcz5_0, hcz5_1, hcz5_2⟩ := zc3 BK183; obtain ⟨hfz5_0, hfz5_1, hfz5_2⟩ := zf3 BK183; obtain ⟨hcz6_0, hcz6_1, hcz6_2⟩ := zc3 BK184; obtain ⟨hfz6_0, hfz6_1, hfz6_2⟩ := zf3 BK184))
 refine bodyPost_ret (results_cell_row rfl _ _ gb184 31 #[.int .i64 a0_0, .int .i64 a0_1, .string a0_2] (0, 0) _ rfl (by refine bx ?_; refine blk_put (cs := #[.int .i64 a0_0, .int .i64 a0_1, .string (⟨#[]⟩ : ByteArray)]) ?_ 2 _ rfl; refine bx ?_; refine blk_put (cs := #[.int .i64 a0_0, .int .i64 0, .string (⟨#[]⟩ : ByteArray)]) ?_ 1 _ rfl; refine bx ?_; refine blk_put (cs := #[.int .i64 0, .int .i64 0, .string (⟨#[]⟩ : ByteArray)]) ?_ 0 _ rfl; refine bx ?_; exact BK184.out) Tryz.underlying31 rfl (by kernel_rfl)) rfl ?_
 exact ⟨eW, by repeat (first | (with_reducible first | exact HB.out | apply below_alloc | apply pw_below_drewN | apply below_drew1 | refine below_set ?_ GE183.out | refine below_set ?_ GE184.out) | exact HB.out)⟩

end Go.Proofs.YtggfnlnonigkiaaGreatDoor.P
