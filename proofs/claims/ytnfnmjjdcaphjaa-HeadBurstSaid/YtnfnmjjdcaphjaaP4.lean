/- What is proved here: for functions of the Go text, a Lean function each, and that the call comes to just what it answers. Conditions: as each contract names them. Written by wip/tools/myprint.py, a driver of the print of the kit. -/
import Derived.Test.YtnfnmjjdcaphjaaP0
import Derived.Test.YtnfnmjjdcaphjaaP2
import Derived.Test.YtnfnmjjdcaphjaaP3
import Derived.Test.YtnfnmjjdcaphjaaWAbbr
namespace Go.Proofs.Ytnfnmjjdcaphjaa.P
open Go.RowKit Go.Proofs.YtnfnmjjdcaphjaaW.PrintWords Go.Proofs.YtnfnmjjdcaphjaaW.PrintLast Go.Proofs.YtnfnmjjdcaphjaaW.PrintMore Go.Proofs.YtnfnmjjdcaphjaaW.Abbr
-- PACKED
attribute [local go_sem] max2_int min2_int max_two min_two max_three min_three max_four min_four Go.Proofs.YtnfnmjjdcaphjaaLaws.str_leq Go.Proofs.YtnfnmjjdcaphjaaLaws.str_gtr Go.Proofs.YtnfnmjjdcaphjaaLaws.str_geq Go.Proofs.YtnfnmjjdcaphjaaLaws.max2_str Go.Proofs.YtnfnmjjdcaphjaaLaws.min2_str   -- for this text's walks alone
set_option linter.unusedVariables false
set_option linter.unusedSimpArgs false

/-! ### head_Seal: function 9 -/
def head_Seal.f (k : Nat) (a0_0 : Int) (a0_1 : Int) (a0_2 : Int) (a0_3 : Int) (a0_4 : Int) (a1 : ByteArray) (a2 : Int) : Option (ByteArray × Int) := (head_may.f a0_0 a0_1 a0_2 a0_3 a0_4 a1 a2).bind fun t132 => (if t132 = 0 then ((head_bytes.f k (([a0_0, a0_1, a0_2, wrap64 (Int.tdiv a0_2 256)] : List Int))).bind fun t136 => ((word_Four.f ((a0_3) % 4294967296)).bind fun t137 => (if t136.size + t137.size ≤ 9223372036854775807 then ((word_Four.f ((a0_4) % 4294967296)).bind fun t138 => (if (t136 ++ t137).size + t138.size ≤ 9223372036854775807 then (if ((t136 ++ t137) ++ t138).size + 4 ≤ 9223372036854775807 then (if (((t136 ++ t137) ++ t138) ++ (⟨#[0, 0, 0, 0]⟩ : ByteArray)).size + a1.size ≤ 9223372036854775807 then ((strings_Repeat.f (⟨#[0]⟩ : ByteArray) (wrap64 (a2 - (((((t136 ++ t137) ++ t138) ++ (⟨#[0, 0, 0, 0]⟩ : ByteArray)) ++ a1).size : Int)))).bind fun t139 => (if ((((t136 ++ t137) ++ t138) ++ (⟨#[0, 0, 0, 0]⟩ : ByteArray)) ++ a1).size + t139.size ≤ 9223372036854775807 then (if 0 ≤ 12 then (if 12 ≤ ((((((t136 ++ t137) ++ t138) ++ (⟨#[0, 0, 0, 0]⟩ : ByteArray)) ++ a1) ++ t139).size : Int) then ((sum_Table.f (((((t136 ++ t137) ++ t138) ++ (⟨#[0, 0, 0, 0]⟩ : ByteArray)) ++ a1) ++ t139)).bind fun t140 => ((word_Four.f t140).bind fun t141 => (if ((((((t136 ++ t137) ++ t138) ++ (⟨#[0, 0, 0, 0]⟩ : ByteArray)) ++ a1) ++ t139).extract 0 12).size + t141.size ≤ 9223372036854775807 then (if 16 ≤ ((((((t136 ++ t137) ++ t138) ++ (⟨#[0, 0, 0, 0]⟩ : ByteArray)) ++ a1) ++ t139).size : Int) then (if (((((((t136 ++ t137) ++ t138) ++ (⟨#[0, 0, 0, 0]⟩ : ByteArray)) ++ a1) ++ t139).extract 0 12) ++ t141).size + ((((((t136 ++ t137) ++ t138) ++ (⟨#[0, 0, 0, 0]⟩ : ByteArray)) ++ a1) ++ t139).extract 16 (((((t136 ++ t137) ++ t138) ++ (⟨#[0, 0, 0, 0]⟩ : ByteArray)) ++ a1) ++ t139).size).size ≤ 9223372036854775807 then (some ((((((((t136 ++ t137) ++ t138) ++ (⟨#[0, 0, 0, 0]⟩ : ByteArray)) ++ a1) ++ t139).extract 0 12) ++ t141) ++ ((((((t136 ++ t137) ++ t138) ++ (⟨#[0, 0, 0, 0]⟩ : ByteArray)) ++ a1) ++ t139).extract 16 (((((t136 ++ t137) ++ t138) ++ (⟨#[0, 0, 0, 0]⟩ : ByteArray)) ++ a1) ++ t139).size), 0)) else (none)) else (none)) else (none)))) else (none)) else (none)) else (none))) else (none)) else (none)) else (none))) else (none)))) else (some ((⟨#[]⟩ : ByteArray), t132)))
theorem head_Seal.mono : ∀ a0 a1 a2 a3 a4 a5 a6 k, LeO (head_Seal.f k a0 a1 a2 a3 a4 a5 a6) (head_Seal.f (k + 1) a0 a1 a2 a3 a4 a5 a6) := by
 intro a0 a1 a2 a3 a4 a5 a6 k
 unfold head_Seal.f
 repeat' first
   | (with_reducible exact head_bytes.mono _ _)
   | (with_reducible exact LeO.refl _)
   | (with_reducible exact LeO.none _)
   | (with_reducible refine LeO.ite ?_ ?_)
   | (with_reducible refine LeO.bind ?_ (fun _ => ?_))
   | exact head_bytes.mono _ _
   | exact LeO.none _
   | refine LeO.ite ?_ ?_
   | refine LeO.bind ?_ (fun _ => ?_)
def head_Seal.T4 : Bool × List (List Nat × List Nat) := (true, [([], []), ([0], [0]), ([], []), ([2], [2]), ([], []), ([4], [4]), ([], []), ([6], [6]), ([7], [7]), ([1, 3, 5, 8], [1, 3, 5, 8]), ([9], [9]), ([], []), ([11], [11]), ([12], [12]), ([13, 10], [13]), ([10, 14], [10, 14]), ([], []), ([16], [16]), ([17], [17]), ([18, 14], [18]), ([15, 19], [15, 19]), ([20], [20]), ([], []), ([21, 22], [21, 22]), ([23, 19, 0, 1, 2, 3, 4, 5, 6, 7, 8, 9, 10, 11, 12, 13, 14, 15, 16, 17, 18, 19, 20, 21, 22, 23], [23])])
def head_Seal.B4 : List Nat := [0, 1, 0, 4, 0, 16, 0, 64, 192, 511, 1023, 0, 2048, 6144, 16383, 32767, 0, 65536, 196608, 491519, 1048575, 2097151, 0, 8388607, 16777215]
theorem head_Seal.tab4 : rtab .any (opsOf Try.f9 4) = head_Seal.T4 := by kernel_rfl
theorem head_Seal.bits4 : waitsOk head_Seal.T4.2 head_Seal.B4 = true := by kernel_rfl
def head_Seal.T6 : Bool × List (List Nat × List Nat) := (true, [([], []), ([0], [0]), ([], []), ([2], [2]), ([3, 3], [3]), ([1, 4], [1, 4]), ([], []), ([6], [6]), ([5, 7], [5, 7]), ([8, 4, 0, 1, 2, 3, 4, 5, 6, 7, 8], [8]), ([9, 0, 1, 2, 3, 4, 5, 6, 7, 8, 9], [])])
def head_Seal.B6 : List Nat := [0, 1, 0, 4, 12, 31, 0, 64, 255, 511, 1023]
theorem head_Seal.tab6 : rtab .any (opsOf Try.f9 6) = head_Seal.T6 := by kernel_rfl
theorem head_Seal.bits6 : waitsOk head_Seal.T6.2 head_Seal.B6 = true := by kernel_rfl
set_option maxHeartbeats 8000000 in
set_option maxRecDepth 100000 in
theorem head_Seal.calls (k : Nat) (a0_0 : Int) (a0_1 : Int) (a0_2 : Int) (a0_3 : Int) (a0_4 : Int) (a1 : ByteArray) (a2 : Int) (r1 : ByteArray) (r2 : Int) (w : World) (h : head_Seal.f k a0_0 a0_1 a0_2 a0_3 a0_4 a1 a2 = some (r1, r2)) :
  Calls Try.prog 9 #[.agg #[.int .i64 a0_0, .int .i64 a0_1, .int .i64 a0_2, .int .i64 a0_3, .int .i64 a0_4], .string a1, .int .i64 a2] w fun e w' => e = .returned (.tuple #[.string r1, .int .i64 r2]) ∧ Below w.heap.size w w' := by
 have hu23 := Try.underlying23
 have HB := as_ (Below.refl w.heap.size w)
 have H : ((head_may.f a0_0 a0_1 a0_2 a0_3 a0_4 a1 a2).bind fun t132 => (if t132 = 0 then ((head_bytes.f k (([a0_0, a0_1, a0_2, wrap64 (Int.tdiv a0_2 256)] : List Int))).bind fun t136 => ((word_Four.f ((a0_3) % 4294967296)).bind fun t137 => (if t136.size + t137.size ≤ 9223372036854775807 then ((word_Four.f ((a0_4) % 4294967296)).bind fun t138 => (if (t136 ++ t137).size + t138.size ≤ 9223372036854775807 then (if ((t136 ++ t137) ++ t138).size + 4 ≤ 9223372036854775807 then (if (((t136 ++ t137) ++ t138) ++ (⟨#[0, 0, 0, 0]⟩ : ByteArray)).size + a1.size ≤ 9223372036854775807 then ((strings_Repeat.f (⟨#[0]⟩ : ByteArray) (wrap64 (a2 - (((((t136 ++ t137) ++ t138) ++ (⟨#[0, 0, 0, 0]⟩ : ByteArray)) ++ a1).size : Int)))).bind fun t139 => (if ((((t136 ++ t137) ++ t138) ++ (⟨#[0, 0, 0, 0]⟩ : ByteArray)) ++ a1).size + t139.size ≤ 9223372036854775807 then (if 0 ≤ 12 then (if 12 ≤ ((((((t136 ++ t137) ++ t138) ++ (⟨#[0, 0, 0, 0]⟩ : ByteArray)) ++ a1) ++ t139).size : Int) then ((sum_Table.f (((((t136 ++ t137) ++ t138) ++ (⟨#[0, 0, 0, 0]⟩ : ByteArray)) ++ a1) ++ t139)).bind fun t140 => ((word_Four.f t140).bind fun t141 => (if ((((((t136 ++ t137) ++ t138) ++ (⟨#[0, 0, 0, 0]⟩ : ByteArray)) ++ a1) ++ t139).extract 0 12).size + t141.size ≤ 9223372036854775807 then (if 16 ≤ ((((((t136 ++ t137) ++ t138) ++ (⟨#[0, 0, 0, 0]⟩ : ByteArray)) ++ a1) ++ t139).size : Int) then (if (((((((t136 ++ t137) ++ t138) ++ (⟨#[0, 0, 0, 0]⟩ : ByteArray)) ++ a1) ++ t139).extract 0 12) ++ t141).size + ((((((t136 ++ t137) ++ t138) ++ (⟨#[0, 0, 0, 0]⟩ : ByteArray)) ++ a1) ++ t139).extract 16 (((((t136 ++ t137) ++ t138) ++ (⟨#[0, 0, 0, 0]⟩ : ByteArray)) ++ a1) ++ t139).size).size ≤ 9223372036854775807 then (some ((((((((t136 ++ t137) ++ t138) ++ (⟨#[0, 0, 0, 0]⟩ : ByteArray)) ++ a1) ++ t139).extract 0 12) ++ t141) ++ ((((((t136 ++ t137) ++ t138) ++ (⟨#[0, 0, 0, 0]⟩ : ByteArray)) ++ a1) ++ t139).extract 16 (((((t136 ++ t137) ++ t138) ++ (⟨#[0, 0, 0, 0]⟩ : ByteArray)) ++ a1) ++ t139).size), 0)) else (none)) else (none)) else (none)))) else (none)) else (none)) else (none))) else (none)) else (none)) else (none))) else (none)))) else (some ((⟨#[]⟩ : ByteArray), t132)))) = some (r1, r2) := h
 clear h
 replace H := bM H
 obtain ⟨t132, A40, H⟩ := H
 replace H : (if t132 = 0 then ((head_bytes.f k (([a0_0, a0_1, a0_2, wrap64 (Int.tdiv a0_2 256)] : List Int))).bind fun t136 => ((word_Four.f ((a0_3) % 4294967296)).bind fun t137 => (if t136.size + t137.size ≤ 9223372036854775807 then ((word_Four.f ((a0_4) % 4294967296)).bind fun t138 => (if (t136 ++ t137).size + t138.size ≤ 9223372036854775807 then (if ((t136 ++ t137) ++ t138).size + 4 ≤ 9223372036854775807 then (if (((t136 ++ t137) ++ t138) ++ (⟨#[0, 0, 0, 0]⟩ : ByteArray)).size + a1.size ≤ 9223372036854775807 then ((strings_Repeat.f (⟨#[0]⟩ : ByteArray) (wrap64 (a2 - (((((t136 ++ t137) ++ t138) ++ (⟨#[0, 0, 0, 0]⟩ : ByteArray)) ++ a1).size : Int)))).bind fun t139 => (if ((((t136 ++ t137) ++ t138) ++ (⟨#[0, 0, 0, 0]⟩ : ByteArray)) ++ a1).size + t139.size ≤ 9223372036854775807 then (if 0 ≤ 12 then (if 12 ≤ ((((((t136 ++ t137) ++ t138) ++ (⟨#[0, 0, 0, 0]⟩ : ByteArray)) ++ a1) ++ t139).size : Int) then ((sum_Table.f (((((t136 ++ t137) ++ t138) ++ (⟨#[0, 0, 0, 0]⟩ : ByteArray)) ++ a1) ++ t139)).bind fun t140 => ((word_Four.f t140).bind fun t141 => (if ((((((t136 ++ t137) ++ t138) ++ (⟨#[0, 0, 0, 0]⟩ : ByteArray)) ++ a1) ++ t139).extract 0 12).size + t141.size ≤ 9223372036854775807 then (if 16 ≤ ((((((t136 ++ t137) ++ t138) ++ (⟨#[0, 0, 0, 0]⟩ : ByteArray)) ++ a1) ++ t139).size : Int) then (if (((((((t136 ++ t137) ++ t138) ++ (⟨#[0, 0, 0, 0]⟩ : ByteArray)) ++ a1) ++ t139).extract 0 12) ++ t141).size + ((((((t136 ++ t137) ++ t138) ++ (⟨#[0, 0, 0, 0]⟩ : ByteArray)) ++ a1) ++ t139).extract 16 (((((t136 ++ t137) ++ t138) ++ (⟨#[0, 0, 0, 0]⟩ : ByteArray)) ++ a1) ++ t139).size).size ≤ 9223372036854775807 then (some ((((((((t136 ++ t137) ++ t138) ++ (⟨#[0, 0, 0, 0]⟩ : ByteArray)) ++ a1) ++ t139).extract 0 12) ++ t141) ++ ((((((t136 ++ t137) ++ t138) ++ (⟨#[0, 0, 0, 0]⟩ : ByteArray)) ++ a1) ++ t139).extract 16 (((((t136 ++ t137) ++ t138) ++ (⟨#[0, 0, 0, 0]⟩ : ByteArray)) ++ a1) ++ t139).size), 0)) else (none)) else (none)) else (none)))) else (none)) else (none)) else (none))) else (none)) else (none)) else (none))) else (none)))) else (some ((⟨#[]⟩ : ByteArray), t132))) = some (r1, r2) := H
 have A4 := Aside0.mk A40
 clear A40
 by_cases c5 : t132 = 0
 rotate_left
 ·rw [if_neg c5] at H
  have c5b0 : (t132 == 0) = false := beq_eq_false_iff_ne.mpr c5
  have c5b1 : (t132 != 0) = true := bne_iff_ne.mpr c5
  simp only [Option.some.injEq, Prod.mk.injEq] at H
  obtain ⟨rfl, rfl⟩ := H
  go_enter Try.func9, Try.ntmps9
  go_wp2_with (first | ((with_reducible refine gate_dst (N := 3) rfl ?_); refine box_event (by rfl) (N := 3) (by rfl) (cs := #[.int .i64 a0_0, .int .i64 a0_1, .int .i64 a0_2, .int .i64 a0_3, .int .i64 a0_4]) (t := 23) gS ?_; intro gb131 hg w45 hbox hb; have BK131 := as_ (hbox); have GW131 := gw hg bA; have GE131 := gw hg bA; replace HB := as_ (below_step bA hb); clear hb hbox hg; obtain ⟨hcz46_0, hcz46_1, hcz46_2, hcz46_3, hcz46_4⟩ := zc5 BK131; obtain ⟨hfz46_0, hfz46_1, hfz46_2, hfz46_3, hfz46_4⟩ := zf5 BK131) | ((with_reducible refine gate_callee (f := 21) rfl ?_); refine goesL_ (some 13) rfl rfl Try.func21 (by kernel_rfl) rfl #[.agg #[.int .i64 a0_0, .int .i64 a0_1, .int .i64 a0_2, .int .i64 a0_3, .int .i64 a0_4], .string a1, .int .i64 a2] rfl aO ?_; (with_reducible refine (head_may.calls a0_0 a0_1 a0_2 a0_3 a0_4 a1 a2 t132 _ A4.out).mono ?_); rintro e w47 ⟨evw47, rfl, her_, hec_, hb⟩; have HER := Aside0.mk her_; have HEC := Aside0.mk hec_; clear her_ hec_; refine ⟨_, rfl, ?_⟩; replace BK131 := bb BK131 hb; replace HB := as_ (below_step bA hb); (try clear hb); (try clear hb2); (try clear hk); (try clear hi)) | ((with_reducible refine gate_callee (f := 20) rfl ?_); refine goesL_ (some 14) rfl rfl Try.func20 (by kernel_rfl) rfl #[evw47] rfl (by (try simp only [List.map_toArray, List.map_cons, List.map_nil]); first | done | rfl) ?_; (with_reducible refine (head_may.calls2 evw47 t132 HEC.out _ HER.out).mono ?_); rintro e w47b ⟨rfl, hb⟩; refine ⟨_, rfl, ?_⟩; replace BK131 := bb BK131 hb; replace HB := as_ (below_step bA hb); (try clear hb); (try clear hb2); (try clear hk); (try clear hi)))
  go_ret2
  exact ⟨eW, by repeat (first | (with_reducible first | exact HB.out | apply below_alloc | apply pw_below_drewN | apply below_drew1 | refine below_set ?_ GE131.out) | exact HB.out)⟩
 
 rw [if_pos c5] at H
 have c5b0 : (t132 == 0) = true := beq_iff_eq.mpr c5
 have c5b1 : (t132 != 0) = false := bne_eq_false_iff_eq.mpr c5
 clear c5
 obtain ⟨y133, hy133⟩ : ∃ y_ : List Int, y_ = (([a0_0, a0_1, a0_2, wrap64 (Int.tdiv a0_2 256)] : List Int)) := ⟨_, rfl⟩
 replace H : ((head_bytes.f k y133).bind fun t136 => ((word_Four.f ((a0_3) % 4294967296)).bind fun t137 => (if t136.size + t137.size ≤ 9223372036854775807 then ((word_Four.f ((a0_4) % 4294967296)).bind fun t138 => (if (t136 ++ t137).size + t138.size ≤ 9223372036854775807 then (if ((t136 ++ t137) ++ t138).size + 4 ≤ 9223372036854775807 then (if (((t136 ++ t137) ++ t138) ++ (⟨#[0, 0, 0, 0]⟩ : ByteArray)).size + a1.size ≤ 9223372036854775807 then ((strings_Repeat.f (⟨#[0]⟩ : ByteArray) (wrap64 (a2 - (((((t136 ++ t137) ++ t138) ++ (⟨#[0, 0, 0, 0]⟩ : ByteArray)) ++ a1).size : Int)))).bind fun t139 => (if ((((t136 ++ t137) ++ t138) ++ (⟨#[0, 0, 0, 0]⟩ : ByteArray)) ++ a1).size + t139.size ≤ 9223372036854775807 then (if 0 ≤ 12 then (if 12 ≤ ((((((t136 ++ t137) ++ t138) ++ (⟨#[0, 0, 0, 0]⟩ : ByteArray)) ++ a1) ++ t139).size : Int) then ((sum_Table.f (((((t136 ++ t137) ++ t138) ++ (⟨#[0, 0, 0, 0]⟩ : ByteArray)) ++ a1) ++ t139)).bind fun t140 => ((word_Four.f t140).bind fun t141 => (if ((((((t136 ++ t137) ++ t138) ++ (⟨#[0, 0, 0, 0]⟩ : ByteArray)) ++ a1) ++ t139).extract 0 12).size + t141.size ≤ 9223372036854775807 then (if 16 ≤ ((((((t136 ++ t137) ++ t138) ++ (⟨#[0, 0, 0, 0]⟩ : ByteArray)) ++ a1) ++ t139).size : Int) then (if (((((((t136 ++ t137) ++ t138) ++ (⟨#[0, 0, 0, 0]⟩ : ByteArray)) ++ a1) ++ t139).extract 0 12) ++ t141).size + ((((((t136 ++ t137) ++ t138) ++ (⟨#[0, 0, 0, 0]⟩ : ByteArray)) ++ a1) ++ t139).extract 16 (((((t136 ++ t137) ++ t138) ++ (⟨#[0, 0, 0, 0]⟩ : ByteArray)) ++ a1) ++ t139).size).size ≤ 9223372036854775807 then (some ((((((((t136 ++ t137) ++ t138) ++ (⟨#[0, 0, 0, 0]⟩ : ByteArray)) ++ a1) ++ t139).extract 0 12) ++ t141) ++ ((((((t136 ++ t137) ++ t138) ++ (⟨#[0, 0, 0, 0]⟩ : ByteArray)) ++ a1) ++ t139).extract 16 (((((t136 ++ t137) ++ t138) ++ (⟨#[0, 0, 0, 0]⟩ : ByteArray)) ++ a1) ++ t139).size), 0)) else (none)) else (none)) else (none)))) else (none)) else (none)) else (none))) else (none)) else (none)) else (none))) else (none)))) = some (r1, r2) := by first | (rw [hy133]; with_reducible exact H) | (have H2_ := (Option.bind_some _ _).symm.trans H; rw [hy133]; with_reducible exact H2_) | (have H2_ := (Option.bind_some _ _).symm.trans H; with_reducible exact H2_) | with_reducible exact H | (rw [hy133]; exact H) | exact H
 have Ny133 := Aside0.mk hy133
 clear hy133
 replace H := bM H
 obtain ⟨t136, A60, H⟩ := H
 replace H : ((word_Four.f ((a0_3) % 4294967296)).bind fun t137 => (if t136.size + t137.size ≤ 9223372036854775807 then ((word_Four.f ((a0_4) % 4294967296)).bind fun t138 => (if (t136 ++ t137).size + t138.size ≤ 9223372036854775807 then (if ((t136 ++ t137) ++ t138).size + 4 ≤ 9223372036854775807 then (if (((t136 ++ t137) ++ t138) ++ (⟨#[0, 0, 0, 0]⟩ : ByteArray)).size + a1.size ≤ 9223372036854775807 then ((strings_Repeat.f (⟨#[0]⟩ : ByteArray) (wrap64 (a2 - (((((t136 ++ t137) ++ t138) ++ (⟨#[0, 0, 0, 0]⟩ : ByteArray)) ++ a1).size : Int)))).bind fun t139 => (if ((((t136 ++ t137) ++ t138) ++ (⟨#[0, 0, 0, 0]⟩ : ByteArray)) ++ a1).size + t139.size ≤ 9223372036854775807 then (if 0 ≤ 12 then (if 12 ≤ ((((((t136 ++ t137) ++ t138) ++ (⟨#[0, 0, 0, 0]⟩ : ByteArray)) ++ a1) ++ t139).size : Int) then ((sum_Table.f (((((t136 ++ t137) ++ t138) ++ (⟨#[0, 0, 0, 0]⟩ : ByteArray)) ++ a1) ++ t139)).bind fun t140 => ((word_Four.f t140).bind fun t141 => (if ((((((t136 ++ t137) ++ t138) ++ (⟨#[0, 0, 0, 0]⟩ : ByteArray)) ++ a1) ++ t139).extract 0 12).size + t141.size ≤ 9223372036854775807 then (if 16 ≤ ((((((t136 ++ t137) ++ t138) ++ (⟨#[0, 0, 0, 0]⟩ : ByteArray)) ++ a1) ++ t139).size : Int) then (if (((((((t136 ++ t137) ++ t138) ++ (⟨#[0, 0, 0, 0]⟩ : ByteArray)) ++ a1) ++ t139).extract 0 12) ++ t141).size + ((((((t136 ++ t137) ++ t138) ++ (⟨#[0, 0, 0, 0]⟩ : ByteArray)) ++ a1) ++ t139).extract 16 (((((t136 ++ t137) ++ t138) ++ (⟨#[0, 0, 0, 0]⟩ : ByteArray)) ++ a1) ++ t139).size).size ≤ 9223372036854775807 then (some ((((((((t136 ++ t137) ++ t138) ++ (⟨#[0, 0, 0, 0]⟩ : ByteArray)) ++ a1) ++ t139).extract 0 12) ++ t141) ++ ((((((t136 ++ t137) ++ t138) ++ (⟨#[0, 0, 0, 0]⟩ : ByteArray)) ++ a1) ++ t139).extract 16 (((((t136 ++ t137) ++ t138) ++ (⟨#[0, 0, 0, 0]⟩ : ByteArray)) ++ a1) ++ t139).size), 0)) else (none)) else (none)) else (none)))) else (none)) else (none)) else (none))) else (none)) else (none)) else (none))) else (none))) = some (r1, r2) := H
 have A6 := Aside0.mk A60
 clear A60
 replace H := bM H
 obtain ⟨t137, A70, H⟩ := H
 replace H : (if t136.size + t137.size ≤ 9223372036854775807 then ((word_Four.f ((a0_4) % 4294967296)).bind fun t138 => (if (t136 ++ t137).size + t138.size ≤ 9223372036854775807 then (if ((t136 ++ t137) ++ t138).size + 4 ≤ 9223372036854775807 then (if (((t136 ++ t137) ++ t138) ++ (⟨#[0, 0, 0, 0]⟩ : ByteArray)).size + a1.size ≤ 9223372036854775807 then ((strings_Repeat.f (⟨#[0]⟩ : ByteArray) (wrap64 (a2 - (((((t136 ++ t137) ++ t138) ++ (⟨#[0, 0, 0, 0]⟩ : ByteArray)) ++ a1).size : Int)))).bind fun t139 => (if ((((t136 ++ t137) ++ t138) ++ (⟨#[0, 0, 0, 0]⟩ : ByteArray)) ++ a1).size + t139.size ≤ 9223372036854775807 then (if 0 ≤ 12 then (if 12 ≤ ((((((t136 ++ t137) ++ t138) ++ (⟨#[0, 0, 0, 0]⟩ : ByteArray)) ++ a1) ++ t139).size : Int) then ((sum_Table.f (((((t136 ++ t137) ++ t138) ++ (⟨#[0, 0, 0, 0]⟩ : ByteArray)) ++ a1) ++ t139)).bind fun t140 => ((word_Four.f t140).bind fun t141 => (if ((((((t136 ++ t137) ++ t138) ++ (⟨#[0, 0, 0, 0]⟩ : ByteArray)) ++ a1) ++ t139).extract 0 12).size + t141.size ≤ 9223372036854775807 then (if 16 ≤ ((((((t136 ++ t137) ++ t138) ++ (⟨#[0, 0, 0, 0]⟩ : ByteArray)) ++ a1) ++ t139).size : Int) then (if (((((((t136 ++ t137) ++ t138) ++ (⟨#[0, 0, 0, 0]⟩ : ByteArray)) ++ a1) ++ t139).extract 0 12) ++ t141).size + ((((((t136 ++ t137) ++ t138) ++ (⟨#[0, 0, 0, 0]⟩ : ByteArray)) ++ a1) ++ t139).extract 16 (((((t136 ++ t137) ++ t138) ++ (⟨#[0, 0, 0, 0]⟩ : ByteArray)) ++ a1) ++ t139).size).size ≤ 9223372036854775807 then (some ((((((((t136 ++ t137) ++ t138) ++ (⟨#[0, 0, 0, 0]⟩ : ByteArray)) ++ a1) ++ t139).extract 0 12) ++ t141) ++ ((((((t136 ++ t137) ++ t138) ++ (⟨#[0, 0, 0, 0]⟩ : ByteArray)) ++ a1) ++ t139).extract 16 (((((t136 ++ t137) ++ t138) ++ (⟨#[0, 0, 0, 0]⟩ : ByteArray)) ++ a1) ++ t139).size), 0)) else (none)) else (none)) else (none)))) else (none)) else (none)) else (none))) else (none)) else (none)) else (none))) else (none)) = some (r1, r2) := H
 have A7 := Aside0.mk A70
 clear A70
 by_cases c8 : t136.size + t137.size ≤ 9223372036854775807
 rotate_left
 ·rw [if_neg c8] at H
  exact absurd H (by simp)
 rw [if_pos c8] at H
 have c8b0 := eq_true c8
 have c8b1 : decide (t136.size + t137.size ≤ 9223372036854775807) = true := decide_eq_true c8
 try have c8b2 : (9223372036854775807 < t136.size + t137.size) = False := eq_false (Nat.not_lt.2 c8)
 obtain ⟨js9, hjs9⟩ : ∃ j_ : ByteArray, (t136 ++ t137) = j_ := ⟨_, rfl⟩
 replace H : ((word_Four.f ((a0_4) % 4294967296)).bind fun t138 => (if (js9).size + t138.size ≤ 9223372036854775807 then (if ((js9) ++ t138).size + 4 ≤ 9223372036854775807 then (if (((js9) ++ t138) ++ (⟨#[0, 0, 0, 0]⟩ : ByteArray)).size + a1.size ≤ 9223372036854775807 then ((strings_Repeat.f (⟨#[0]⟩ : ByteArray) (wrap64 (a2 - (((((js9) ++ t138) ++ (⟨#[0, 0, 0, 0]⟩ : ByteArray)) ++ a1).size : Int)))).bind fun t139 => (if ((((js9) ++ t138) ++ (⟨#[0, 0, 0, 0]⟩ : ByteArray)) ++ a1).size + t139.size ≤ 9223372036854775807 then (if 0 ≤ 12 then (if 12 ≤ ((((((js9) ++ t138) ++ (⟨#[0, 0, 0, 0]⟩ : ByteArray)) ++ a1) ++ t139).size : Int) then ((sum_Table.f (((((js9) ++ t138) ++ (⟨#[0, 0, 0, 0]⟩ : ByteArray)) ++ a1) ++ t139)).bind fun t140 => ((word_Four.f t140).bind fun t141 => (if ((((((js9) ++ t138) ++ (⟨#[0, 0, 0, 0]⟩ : ByteArray)) ++ a1) ++ t139).extract 0 12).size + t141.size ≤ 9223372036854775807 then (if 16 ≤ ((((((js9) ++ t138) ++ (⟨#[0, 0, 0, 0]⟩ : ByteArray)) ++ a1) ++ t139).size : Int) then (if (((((((js9) ++ t138) ++ (⟨#[0, 0, 0, 0]⟩ : ByteArray)) ++ a1) ++ t139).extract 0 12) ++ t141).size + ((((((js9) ++ t138) ++ (⟨#[0, 0, 0, 0]⟩ : ByteArray)) ++ a1) ++ t139).extract 16 (((((js9) ++ t138) ++ (⟨#[0, 0, 0, 0]⟩ : ByteArray)) ++ a1) ++ t139).size).size ≤ 9223372036854775807 then (some ((((((((js9) ++ t138) ++ (⟨#[0, 0, 0, 0]⟩ : ByteArray)) ++ a1) ++ t139).extract 0 12) ++ t141) ++ ((((((js9) ++ t138) ++ (⟨#[0, 0, 0, 0]⟩ : ByteArray)) ++ a1) ++ t139).extract 16 (((((js9) ++ t138) ++ (⟨#[0, 0, 0, 0]⟩ : ByteArray)) ++ a1) ++ t139).size), 0)) else (none)) else (none)) else (none)))) else (none)) else (none)) else (none))) else (none)) else (none)) else (none))) = some (r1, r2) := by first | (rw [hjs9] at H; exact H) | (simp only [hjs9] at H ⊢; exact H)
 (try rw [hjs9] at A4)
 (try rw [hjs9] at A6)
 (try rw [hjs9] at A7)
 replace H := bM H
 obtain ⟨t138, A100, H⟩ := H
 replace H : (if (js9).size + t138.size ≤ 9223372036854775807 then (if ((js9) ++ t138).size + 4 ≤ 9223372036854775807 then (if (((js9) ++ t138) ++ (⟨#[0, 0, 0, 0]⟩ : ByteArray)).size + a1.size ≤ 9223372036854775807 then ((strings_Repeat.f (⟨#[0]⟩ : ByteArray) (wrap64 (a2 - (((((js9) ++ t138) ++ (⟨#[0, 0, 0, 0]⟩ : ByteArray)) ++ a1).size : Int)))).bind fun t139 => (if ((((js9) ++ t138) ++ (⟨#[0, 0, 0, 0]⟩ : ByteArray)) ++ a1).size + t139.size ≤ 9223372036854775807 then (if 0 ≤ 12 then (if 12 ≤ ((((((js9) ++ t138) ++ (⟨#[0, 0, 0, 0]⟩ : ByteArray)) ++ a1) ++ t139).size : Int) then ((sum_Table.f (((((js9) ++ t138) ++ (⟨#[0, 0, 0, 0]⟩ : ByteArray)) ++ a1) ++ t139)).bind fun t140 => ((word_Four.f t140).bind fun t141 => (if ((((((js9) ++ t138) ++ (⟨#[0, 0, 0, 0]⟩ : ByteArray)) ++ a1) ++ t139).extract 0 12).size + t141.size ≤ 9223372036854775807 then (if 16 ≤ ((((((js9) ++ t138) ++ (⟨#[0, 0, 0, 0]⟩ : ByteArray)) ++ a1) ++ t139).size : Int) then (if (((((((js9) ++ t138) ++ (⟨#[0, 0, 0, 0]⟩ : ByteArray)) ++ a1) ++ t139).extract 0 12) ++ t141).size + ((((((js9) ++ t138) ++ (⟨#[0, 0, 0, 0]⟩ : ByteArray)) ++ a1) ++ t139).extract 16 (((((js9) ++ t138) ++ (⟨#[0, 0, 0, 0]⟩ : ByteArray)) ++ a1) ++ t139).size).size ≤ 9223372036854775807 then (some ((((((((js9) ++ t138) ++ (⟨#[0, 0, 0, 0]⟩ : ByteArray)) ++ a1) ++ t139).extract 0 12) ++ t141) ++ ((((((js9) ++ t138) ++ (⟨#[0, 0, 0, 0]⟩ : ByteArray)) ++ a1) ++ t139).extract 16 (((((js9) ++ t138) ++ (⟨#[0, 0, 0, 0]⟩ : ByteArray)) ++ a1) ++ t139).size), 0)) else (none)) else (none)) else (none)))) else (none)) else (none)) else (none))) else (none)) else (none)) else (none)) = some (r1, r2) := H
 have A10 := Aside0.mk A100
 clear A100
 by_cases c11 : (js9).size + t138.size ≤ 9223372036854775807
 rotate_left
 ·rw [if_neg c11] at H
  exact absurd H (by simp)
 rw [if_pos c11] at H
 have c11b0 := eq_true c11
 have c11b1 : decide ((js9).size + t138.size ≤ 9223372036854775807) = true := decide_eq_true c11
 try have c11b2 : (9223372036854775807 < (js9).size + t138.size) = False := eq_false (Nat.not_lt.2 c11)
 obtain ⟨js12, hjs12⟩ : ∃ j_ : ByteArray, ((js9) ++ t138) = j_ := ⟨_, rfl⟩
 replace H : (if (js12).size + 4 ≤ 9223372036854775807 then (if ((js12) ++ (⟨#[0, 0, 0, 0]⟩ : ByteArray)).size + a1.size ≤ 9223372036854775807 then ((strings_Repeat.f (⟨#[0]⟩ : ByteArray) (wrap64 (a2 - ((((js12) ++ (⟨#[0, 0, 0, 0]⟩ : ByteArray)) ++ a1).size : Int)))).bind fun t139 => (if (((js12) ++ (⟨#[0, 0, 0, 0]⟩ : ByteArray)) ++ a1).size + t139.size ≤ 9223372036854775807 then (if 0 ≤ 12 then (if 12 ≤ (((((js12) ++ (⟨#[0, 0, 0, 0]⟩ : ByteArray)) ++ a1) ++ t139).size : Int) then ((sum_Table.f ((((js12) ++ (⟨#[0, 0, 0, 0]⟩ : ByteArray)) ++ a1) ++ t139)).bind fun t140 => ((word_Four.f t140).bind fun t141 => (if (((((js12) ++ (⟨#[0, 0, 0, 0]⟩ : ByteArray)) ++ a1) ++ t139).extract 0 12).size + t141.size ≤ 9223372036854775807 then (if 16 ≤ (((((js12) ++ (⟨#[0, 0, 0, 0]⟩ : ByteArray)) ++ a1) ++ t139).size : Int) then (if ((((((js12) ++ (⟨#[0, 0, 0, 0]⟩ : ByteArray)) ++ a1) ++ t139).extract 0 12) ++ t141).size + (((((js12) ++ (⟨#[0, 0, 0, 0]⟩ : ByteArray)) ++ a1) ++ t139).extract 16 ((((js12) ++ (⟨#[0, 0, 0, 0]⟩ : ByteArray)) ++ a1) ++ t139).size).size ≤ 9223372036854775807 then (some (((((((js12) ++ (⟨#[0, 0, 0, 0]⟩ : ByteArray)) ++ a1) ++ t139).extract 0 12) ++ t141) ++ (((((js12) ++ (⟨#[0, 0, 0, 0]⟩ : ByteArray)) ++ a1) ++ t139).extract 16 ((((js12) ++ (⟨#[0, 0, 0, 0]⟩ : ByteArray)) ++ a1) ++ t139).size), 0)) else (none)) else (none)) else (none)))) else (none)) else (none)) else (none))) else (none)) else (none)) = some (r1, r2) := by first | (rw [hjs12] at H; exact H) | (simp only [hjs12] at H ⊢; exact H)
 (try rw [hjs12] at A4)
 (try rw [hjs12] at A6)
 (try rw [hjs12] at A7)
 (try rw [hjs12] at A10)
 by_cases c13 : (js12).size + 4 ≤ 9223372036854775807
 rotate_left
 ·rw [if_neg c13] at H
  exact absurd H (by simp)
 rw [if_pos c13] at H
 have c13b0 := eq_true c13
 have c13b1 : decide ((js12).size + 4 ≤ 9223372036854775807) = true := decide_eq_true c13
 try have c13b2 : (9223372036854775807 < (js12).size + 4) = False := eq_false (Nat.not_lt.2 c13)
 obtain ⟨js14, hjs14⟩ : ∃ j_ : ByteArray, ((js12) ++ (⟨#[0, 0, 0, 0]⟩ : ByteArray)) = j_ := ⟨_, rfl⟩
 replace H : (if (js14).size + a1.size ≤ 9223372036854775807 then ((strings_Repeat.f (⟨#[0]⟩ : ByteArray) (wrap64 (a2 - (((js14) ++ a1).size : Int)))).bind fun t139 => (if ((js14) ++ a1).size + t139.size ≤ 9223372036854775807 then (if 0 ≤ 12 then (if 12 ≤ ((((js14) ++ a1) ++ t139).size : Int) then ((sum_Table.f (((js14) ++ a1) ++ t139)).bind fun t140 => ((word_Four.f t140).bind fun t141 => (if ((((js14) ++ a1) ++ t139).extract 0 12).size + t141.size ≤ 9223372036854775807 then (if 16 ≤ ((((js14) ++ a1) ++ t139).size : Int) then (if (((((js14) ++ a1) ++ t139).extract 0 12) ++ t141).size + ((((js14) ++ a1) ++ t139).extract 16 (((js14) ++ a1) ++ t139).size).size ≤ 9223372036854775807 then (some ((((((js14) ++ a1) ++ t139).extract 0 12) ++ t141) ++ ((((js14) ++ a1) ++ t139).extract 16 (((js14) ++ a1) ++ t139).size), 0)) else (none)) else (none)) else (none)))) else (none)) else (none)) else (none))) else (none)) = some (r1, r2) := by first | (rw [hjs14] at H; exact H) | (simp only [hjs14] at H ⊢; exact H)
 (try rw [hjs14] at A4)
 (try rw [hjs14] at A6)
 (try rw [hjs14] at A7)
 (try rw [hjs14] at A10)
 by_cases c15 : (js14).size + a1.size ≤ 9223372036854775807
 rotate_left
 ·rw [if_neg c15] at H
  exact absurd H (by simp)
 rw [if_pos c15] at H
 have c15b0 := eq_true c15
 have c15b1 : decide ((js14).size + a1.size ≤ 9223372036854775807) = true := decide_eq_true c15
 try have c15b2 : (9223372036854775807 < (js14).size + a1.size) = False := eq_false (Nat.not_lt.2 c15)
 obtain ⟨js16, hjs16⟩ : ∃ j_ : ByteArray, ((js14) ++ a1) = j_ := ⟨_, rfl⟩
 replace H : ((strings_Repeat.f (⟨#[0]⟩ : ByteArray) (wrap64 (a2 - ((js16).size : Int)))).bind fun t139 => (if (js16).size + t139.size ≤ 9223372036854775807 then (if 0 ≤ 12 then (if 12 ≤ (((js16) ++ t139).size : Int) then ((sum_Table.f ((js16) ++ t139)).bind fun t140 => ((word_Four.f t140).bind fun t141 => (if (((js16) ++ t139).extract 0 12).size + t141.size ≤ 9223372036854775807 then (if 16 ≤ (((js16) ++ t139).size : Int) then (if ((((js16) ++ t139).extract 0 12) ++ t141).size + (((js16) ++ t139).extract 16 ((js16) ++ t139).size).size ≤ 9223372036854775807 then (some (((((js16) ++ t139).extract 0 12) ++ t141) ++ (((js16) ++ t139).extract 16 ((js16) ++ t139).size), 0)) else (none)) else (none)) else (none)))) else (none)) else (none)) else (none))) = some (r1, r2) := by first | (rw [hjs16] at H; exact H) | (simp only [hjs16] at H ⊢; exact H)
 (try rw [hjs16] at A4)
 (try rw [hjs16] at A6)
 (try rw [hjs16] at A7)
 (try rw [hjs16] at A10)
 replace H := bM H
 obtain ⟨t139, A170, H⟩ := H
 replace H : (if (js16).size + t139.size ≤ 9223372036854775807 then (if 0 ≤ 12 then (if 12 ≤ (((js16) ++ t139).size : Int) then ((sum_Table.f ((js16) ++ t139)).bind fun t140 => ((word_Four.f t140).bind fun t141 => (if (((js16) ++ t139).extract 0 12).size + t141.size ≤ 9223372036854775807 then (if 16 ≤ (((js16) ++ t139).size : Int) then (if ((((js16) ++ t139).extract 0 12) ++ t141).size + (((js16) ++ t139).extract 16 ((js16) ++ t139).size).size ≤ 9223372036854775807 then (some (((((js16) ++ t139).extract 0 12) ++ t141) ++ (((js16) ++ t139).extract 16 ((js16) ++ t139).size), 0)) else (none)) else (none)) else (none)))) else (none)) else (none)) else (none)) = some (r1, r2) := H
 have A17 := Aside0.mk A170
 clear A170
 by_cases c18 : (js16).size + t139.size ≤ 9223372036854775807
 rotate_left
 ·rw [if_neg c18] at H
  exact absurd H (by simp)
 rw [if_pos c18] at H
 have c18b0 := eq_true c18
 have c18b1 : decide ((js16).size + t139.size ≤ 9223372036854775807) = true := decide_eq_true c18
 try have c18b2 : (9223372036854775807 < (js16).size + t139.size) = False := eq_false (Nat.not_lt.2 c18)
 obtain ⟨js19, hjs19⟩ : ∃ j_ : ByteArray, ((js16) ++ t139) = j_ := ⟨_, rfl⟩
 replace H : (if 0 ≤ 12 then (if 12 ≤ ((js19).size : Int) then ((sum_Table.f (js19)).bind fun t140 => ((word_Four.f t140).bind fun t141 => (if ((js19).extract 0 12).size + t141.size ≤ 9223372036854775807 then (if 16 ≤ ((js19).size : Int) then (if (((js19).extract 0 12) ++ t141).size + ((js19).extract 16 (js19).size).size ≤ 9223372036854775807 then (some ((((js19).extract 0 12) ++ t141) ++ ((js19).extract 16 (js19).size), 0)) else (none)) else (none)) else (none)))) else (none)) else (none)) = some (r1, r2) := by first | (rw [hjs19] at H; exact H) | (simp only [hjs19] at H ⊢; exact H)
 (try rw [hjs19] at A4)
 (try rw [hjs19] at A6)
 (try rw [hjs19] at A7)
 (try rw [hjs19] at A10)
 (try rw [hjs19] at A17)
 by_cases c20 : 0 ≤ 12
 rotate_left
 ·rw [if_neg c20] at H
  exact absurd H (by simp)
 rw [if_pos c20] at H
 have c20b0 := eq_true c20
 have c20b1 : decide (0 ≤ 12) = true := decide_eq_true c20
 clear c20
 by_cases c21 : 12 ≤ ((js19).size : Int)
 rotate_left
 ·rw [if_neg c21] at H
  exact absurd H (by simp)
 rw [if_pos c21] at H
 have c21b0 := eq_true c21
 have c21b1 : decide (12 ≤ ((js19).size : Int)) = true := decide_eq_true c21
 clear c21
 obtain ⟨js22, hjs22⟩ : ∃ j_ : ByteArray, ((js19).extract 0 12) = j_ := ⟨_, rfl⟩
 replace H : ((sum_Table.f (js19)).bind fun t140 => ((word_Four.f t140).bind fun t141 => (if (js22).size + t141.size ≤ 9223372036854775807 then (if 16 ≤ ((js19).size : Int) then (if ((js22) ++ t141).size + ((js19).extract 16 (js19).size).size ≤ 9223372036854775807 then (some (((js22) ++ t141) ++ ((js19).extract 16 (js19).size), 0)) else (none)) else (none)) else (none)))) = some (r1, r2) := by first | (rw [hjs22] at H; exact H) | (simp only [hjs22] at H ⊢; exact H)
 (try rw [hjs22] at A4)
 (try rw [hjs22] at A6)
 (try rw [hjs22] at A7)
 (try rw [hjs22] at A10)
 (try rw [hjs22] at A17)
 replace H := bM H
 obtain ⟨t140, A230, H⟩ := H
 replace H : ((word_Four.f t140).bind fun t141 => (if (js22).size + t141.size ≤ 9223372036854775807 then (if 16 ≤ ((js19).size : Int) then (if ((js22) ++ t141).size + ((js19).extract 16 (js19).size).size ≤ 9223372036854775807 then (some (((js22) ++ t141) ++ ((js19).extract 16 (js19).size), 0)) else (none)) else (none)) else (none))) = some (r1, r2) := H
 have A23 := Aside0.mk A230
 clear A230
 replace H := bM H
 obtain ⟨t141, A240, H⟩ := H
 replace H : (if (js22).size + t141.size ≤ 9223372036854775807 then (if 16 ≤ ((js19).size : Int) then (if ((js22) ++ t141).size + ((js19).extract 16 (js19).size).size ≤ 9223372036854775807 then (some (((js22) ++ t141) ++ ((js19).extract 16 (js19).size), 0)) else (none)) else (none)) else (none)) = some (r1, r2) := H
 have A24 := Aside0.mk A240
 clear A240
 by_cases c25 : (js22).size + t141.size ≤ 9223372036854775807
 rotate_left
 ·rw [if_neg c25] at H
  exact absurd H (by simp)
 rw [if_pos c25] at H
 have c25b0 := eq_true c25
 have c25b1 : decide ((js22).size + t141.size ≤ 9223372036854775807) = true := decide_eq_true c25
 try have c25b2 : (9223372036854775807 < (js22).size + t141.size) = False := eq_false (Nat.not_lt.2 c25)
 obtain ⟨js26, hjs26⟩ : ∃ j_ : ByteArray, ((js22) ++ t141) = j_ := ⟨_, rfl⟩
 replace H : (if 16 ≤ ((js19).size : Int) then (if (js26).size + ((js19).extract 16 (js19).size).size ≤ 9223372036854775807 then (some ((js26) ++ ((js19).extract 16 (js19).size), 0)) else (none)) else (none)) = some (r1, r2) := by first | (rw [hjs26] at H; exact H) | (simp only [hjs26] at H ⊢; exact H)
 (try rw [hjs26] at A4)
 (try rw [hjs26] at A6)
 (try rw [hjs26] at A7)
 (try rw [hjs26] at A10)
 (try rw [hjs26] at A17)
 (try rw [hjs26] at A23)
 (try rw [hjs26] at A24)
 by_cases c27 : 16 ≤ ((js19).size : Int)
 rotate_left
 ·rw [if_neg c27] at H
  exact absurd H (by simp)
 rw [if_pos c27] at H
 have c27b0 := eq_true c27
 have c27b1 : decide (16 ≤ ((js19).size : Int)) = true := decide_eq_true c27
 clear c27
 obtain ⟨js28, hjs28⟩ : ∃ j_ : ByteArray, ((js19).extract 16 (js19).size) = j_ := ⟨_, rfl⟩
 replace H : (if (js26).size + (js28).size ≤ 9223372036854775807 then (some ((js26) ++ (js28), 0)) else (none)) = some (r1, r2) := by first | (rw [hjs28] at H; exact H) | (simp only [hjs28] at H ⊢; exact H)
 (try rw [hjs28] at A4)
 (try rw [hjs28] at A6)
 (try rw [hjs28] at A7)
 (try rw [hjs28] at A10)
 (try rw [hjs28] at A17)
 (try rw [hjs28] at A23)
 (try rw [hjs28] at A24)
 by_cases c29 : (js26).size + (js28).size ≤ 9223372036854775807
 rotate_left
 ·rw [if_neg c29] at H
  exact absurd H (by simp)
 rw [if_pos c29] at H
 have c29b0 := eq_true c29
 have c29b1 : decide ((js26).size + (js28).size ≤ 9223372036854775807) = true := decide_eq_true c29
 try have c29b2 : (9223372036854775807 < (js26).size + (js28).size) = False := eq_false (Nat.not_lt.2 c29)
 obtain ⟨js30, hjs30⟩ : ∃ j_ : ByteArray, ((js26) ++ (js28)) = j_ := ⟨_, rfl⟩
 replace H : (some (js30, 0)) = some (r1, r2) := by first | (rw [hjs30] at H; exact H) | (simp only [hjs30] at H ⊢; exact H)
 (try rw [hjs30] at A4)
 (try rw [hjs30] at A6)
 (try rw [hjs30] at A7)
 (try rw [hjs30] at A10)
 (try rw [hjs30] at A17)
 (try rw [hjs30] at A23)
 (try rw [hjs30] at A24)
 simp only [Option.some.injEq, Prod.mk.injEq] at H
 obtain ⟨rfl, rfl⟩ := H
 go_enter Try.func9, Try.ntmps9
 try go_wp2_with (first | ((with_reducible refine gate_dst (N := 3) rfl ?_); refine box_event (by rfl) (N := 3) (by rfl) (cs := #[.int .i64 a0_0, .int .i64 a0_1, .int .i64 a0_2, .int .i64 a0_3, .int .i64 a0_4]) (t := 23) gS ?_; intro gb131 hg w31 hbox hb; have BK131 := as_ (hbox); have GW131 := gw hg bA; have GE131 := gw hg bA; replace HB := as_ (below_step bA hb); clear hb hbox hg; obtain ⟨hcz32_0, hcz32_1, hcz32_2, hcz32_3, hcz32_4⟩ := zc5 BK131; obtain ⟨hfz32_0, hfz32_1, hfz32_2, hfz32_3, hfz32_4⟩ := zf5 BK131) | ((with_reducible refine gate_callee (f := 21) rfl ?_); refine goesL_ (some 13) rfl rfl Try.func21 (by kernel_rfl) rfl #[.agg #[.int .i64 a0_0, .int .i64 a0_1, .int .i64 a0_2, .int .i64 a0_3, .int .i64 a0_4], .string a1, .int .i64 a2] rfl aO ?_; (with_reducible refine (head_may.calls a0_0 a0_1 a0_2 a0_3 a0_4 a1 a2 t132 _ A4.out).mono ?_); rintro e w33 ⟨evw33, rfl, her_, hec_, hb⟩; have HER := Aside0.mk her_; have HEC := Aside0.mk hec_; clear her_ hec_; refine ⟨_, rfl, ?_⟩; replace BK131 := bb BK131 hb; replace HB := as_ (below_step bA hb); (try clear hb); (try clear hb2); (try clear hk); (try clear hi)) | ((with_reducible refine gate_callee (f := 20) rfl ?_); refine goesL_ (some 14) rfl rfl Try.func20 (by kernel_rfl) rfl #[evw33] rfl (by (try simp only [List.map_toArray, List.map_cons, List.map_nil]); first | done | rfl) ?_; (with_reducible refine (head_may.calls2 evw33 t132 HEC.out _ HER.out).mono ?_); rintro e w33b ⟨rfl, hb⟩; refine ⟨_, rfl, ?_⟩; replace BK131 := bb BK131 hb; replace HB := as_ (below_step bA hb); (try clear hb); (try clear hb2); (try clear hk); (try clear hi)))
 replace BK131 := as_ (blk_drew BK131.out)
 replace HB := as_ (below_drew1 HB.out)
 refine start_ (n := 25) (S := fun w' => w'.cell? ⟨gb131, 0, none⟩ = some (.int .i64 a0_0) ∧ w'.cell? ⟨gb131, 1, none⟩ = some (.int .i64 a0_1) ∧ w'.cell? ⟨gb131, 2, none⟩ = some (.int .i64 a0_2) ∧ w'.cell? ⟨gb131, 3, none⟩ = some (.int .i64 a0_3) ∧ w'.cell? ⟨gb131, 4, none⟩ = some (.int .i64 a0_4)) (ds := []) #[ff, ff, ff, ff, ff, ff, ff, ff, ff, ff, ff, ff, ff, ff, ff, ff, ff, ff, ff, ff, ff, ff, ff, ff, ff] (by kernel_rfl) rfl rfl ⟨(blk_cell BK131.out 0).trans rfl, (blk_cell BK131.out 1).trans rfl, (blk_cell BK131.out 2).trans rfl, (blk_cell BK131.out 3).trans rfl, (blk_cell BK131.out 4).trans rfl⟩ (fun hHeld => ?_); refine with_tabW head_Seal.tab4 head_Seal.bits4 (fun HT_ HW_ => ?_)
 generalize w33.drew = w34 at BK131 HB hHeld ⊢
 refine pure_ (i := 0) (N := some 18) (v := ?_) (a' := ?_) #[tt, ff, ff, ff, ff, ff, ff, ff, ff, ff, ff, ff, ff, ff, ff, ff, ff, ff, ff, ff, ff, ff, ff, ff, ff] rfl rfl (any_of HT_.out (by kernel_rfl)) (fun _ _ _ h => h) (Or.inl ⟨by rfl, ?_⟩) ?_ ?_
 rotate_left
 ·intro w'
  go_simp
  with_reducible rfl
 rotate_left
 ·exact aP
 refine pure_ (i := 2) (N := some 20) (v := ?_) (a' := ?_) #[tt, ff, tt, ff, ff, ff, ff, ff, ff, ff, ff, ff, ff, ff, ff, ff, ff, ff, ff, ff, ff, ff, ff, ff, ff] rfl rfl (any_of HT_.out (by kernel_rfl)) (fun _ _ _ h => h) (Or.inl ⟨by rfl, ?_⟩) ?_ ?_
 rotate_left
 ·intro w'
  go_simp
  with_reducible rfl
 rotate_left
 ·exact aP
 refine pure_ (i := 4) (N := some 22) (v := ?_) (a' := ?_) #[tt, ff, tt, ff, tt, ff, ff, ff, ff, ff, ff, ff, ff, ff, ff, ff, ff, ff, ff, ff, ff, ff, ff, ff, ff] rfl rfl (any_of HT_.out (by kernel_rfl)) (fun _ _ _ h => h) (Or.inl ⟨by rfl, ?_⟩) ?_ ?_
 rotate_left
 ·intro w'
  go_simp
  with_reducible rfl
 rotate_left
 ·exact aP
 refine pure_ (i := 6) (N := some 24) (v := ?_) (a' := ?_) #[tt, ff, tt, ff, tt, ff, tt, ff, ff, ff, ff, ff, ff, ff, ff, ff, ff, ff, ff, ff, ff, ff, ff, ff, ff] rfl rfl (any_of HT_.out (by kernel_rfl)) (fun _ _ _ h => h) (Or.inl ⟨by rfl, ?_⟩) ?_ ?_
 rotate_left
 ·intro w'
  go_simp
  with_reducible rfl
 rotate_left
 ·exact aP
 refine pure_ (i := 11) (N := some 29) (v := ?_) (a' := ?_) #[tt, ff, tt, ff, tt, ff, tt, ff, ff, ff, ff, tt, ff, ff, ff, ff, ff, ff, ff, ff, ff, ff, ff, ff, ff] rfl rfl (any_of HT_.out (by kernel_rfl)) (fun _ _ _ h => h) (Or.inl ⟨by rfl, ?_⟩) ?_ ?_
 rotate_left
 ·intro w'
  go_simp
  with_reducible rfl
 rotate_left
 ·exact aP
 refine pure_ (i := 16) (N := some 34) (v := ?_) (a' := ?_) #[tt, ff, tt, ff, tt, ff, tt, ff, ff, ff, ff, tt, ff, ff, ff, ff, tt, ff, ff, ff, ff, ff, ff, ff, ff] rfl rfl (any_of HT_.out (by kernel_rfl)) (fun _ _ _ h => h) (Or.inl ⟨by rfl, ?_⟩) ?_ ?_
 rotate_left
 ·intro w'
  go_simp
  with_reducible rfl
 rotate_left
 ·exact aP
 refine pure_ (i := 22) (N := some 40) (v := ?_) (a' := ?_) #[tt, ff, tt, ff, tt, ff, tt, ff, ff, ff, ff, tt, ff, ff, ff, ff, tt, ff, ff, ff, ff, ff, tt, ff, ff] rfl rfl (any_of HT_.out (by kernel_rfl)) (fun _ _ _ h => h) (Or.inl ⟨by rfl, ?_⟩) ?_ ?_
 rotate_left
 ·intro w'
  go_simp
  with_reducible rfl
 rotate_left
 ·exact aP
 refine take_ (i := 1) (N := some 19) (v := ?_) (a' := ?_) #[tt, tt, tt, ff, tt, ff, tt, ff, ff, ff, ff, tt, ff, ff, ff, ff, tt, ff, ff, ff, ff, ff, tt, ff, ff] rfl rfl (take_ofW HT_.out HW_.out (by kernel_rfl)) (fun _ _ _ h => h) (Or.inl ⟨by rfl, ?_⟩) hHeld ?_ ?_
 rotate_left
 ·rintro w' ⟨s0, s1, s2, s3, s4⟩
  go_simp
  with_reducible rfl
 rotate_left
 ·exact aP
 refine take_ (i := 3) (N := some 21) (v := ?_) (a' := ?_) #[tt, tt, tt, tt, tt, ff, tt, ff, ff, ff, ff, tt, ff, ff, ff, ff, tt, ff, ff, ff, ff, ff, tt, ff, ff] rfl rfl (take_ofW HT_.out HW_.out (by kernel_rfl)) (fun _ _ _ h => h) (Or.inl ⟨by rfl, ?_⟩) hHeld ?_ ?_
 rotate_left
 ·rintro w' ⟨s0, s1, s2, s3, s4⟩
  go_simp
  with_reducible rfl
 rotate_left
 ·exact aP
 refine take_ (i := 5) (N := some 23) (v := ?_) (a' := ?_) #[tt, tt, tt, tt, tt, tt, tt, ff, ff, ff, ff, tt, ff, ff, ff, ff, tt, ff, ff, ff, ff, ff, tt, ff, ff] rfl rfl (take_ofW HT_.out HW_.out (by kernel_rfl)) (fun _ _ _ h => h) (Or.inl ⟨by rfl, ?_⟩) hHeld ?_ ?_
 rotate_left
 ·rintro w' ⟨s0, s1, s2, s3, s4⟩
  go_simp
  with_reducible rfl
 rotate_left
 ·exact aP
 refine take_ (i := 7) (N := some 25) (v := ?_) (a' := ?_) #[tt, tt, tt, tt, tt, tt, tt, tt, ff, ff, ff, tt, ff, ff, ff, ff, tt, ff, ff, ff, ff, ff, tt, ff, ff] rfl rfl (take_ofW HT_.out HW_.out (by kernel_rfl)) (fun _ _ _ h => h) (Or.inl ⟨by rfl, ?_⟩) hHeld ?_ ?_
 rotate_left
 ·rintro w' ⟨s0, s1, s2, s3, s4⟩
  go_simp
  with_reducible rfl
 rotate_left
 ·exact aP
 refine pure_ (i := 8) (N := some 26) (v := ?_) (a' := ?_) #[tt, tt, tt, tt, tt, tt, tt, tt, tt, ff, ff, tt, ff, ff, ff, ff, tt, ff, ff, ff, ff, ff, tt, ff, ff] rfl rfl (any_of HT_.out (by kernel_rfl)) (fun _ _ _ h => h) (Or.inl ⟨by rfl, ?_⟩) ?_ ?_
 rotate_left
 ·intro w'
  go_simp
  with_reducible rfl
 rotate_left
 ·exact aP
 refine take_ (i := 12) (N := some 30) (v := ?_) (a' := ?_) #[tt, tt, tt, tt, tt, tt, tt, tt, tt, ff, ff, tt, tt, ff, ff, ff, tt, ff, ff, ff, ff, ff, tt, ff, ff] rfl rfl (take_ofW HT_.out HW_.out (by kernel_rfl)) (fun _ _ _ h => h) (Or.inl ⟨by rfl, ?_⟩) hHeld ?_ ?_
 rotate_left
 ·rintro w' ⟨s0, s1, s2, s3, s4⟩
  go_simp
  with_reducible rfl
 rotate_left
 ·exact aP
 refine pure_ (i := 13) (N := some 31) (v := ?_) (a' := ?_) #[tt, tt, tt, tt, tt, tt, tt, tt, tt, ff, ff, tt, tt, tt, ff, ff, tt, ff, ff, ff, ff, ff, tt, ff, ff] rfl rfl (any_of HT_.out (by kernel_rfl)) (fun _ _ _ h => h) (Or.inl ⟨by rfl, ?_⟩) ?_ ?_
 rotate_left
 ·intro w'
  go_simp
  with_reducible rfl
 rotate_left
 ·exact aP
 refine take_ (i := 17) (N := some 35) (v := ?_) (a' := ?_) #[tt, tt, tt, tt, tt, tt, tt, tt, tt, ff, ff, tt, tt, tt, ff, ff, tt, tt, ff, ff, ff, ff, tt, ff, ff] rfl rfl (take_ofW HT_.out HW_.out (by kernel_rfl)) (fun _ _ _ h => h) (Or.inl ⟨by rfl, ?_⟩) hHeld ?_ ?_
 rotate_left
 ·rintro w' ⟨s0, s1, s2, s3, s4⟩
  go_simp
  with_reducible rfl
 rotate_left
 ·exact aP
 refine pure_ (i := 18) (N := some 36) (v := ?_) (a' := ?_) #[tt, tt, tt, tt, tt, tt, tt, tt, tt, ff, ff, tt, tt, tt, ff, ff, tt, tt, tt, ff, ff, ff, tt, ff, ff] rfl rfl (any_of HT_.out (by kernel_rfl)) (fun _ _ _ h => h) (Or.inl ⟨by rfl, ?_⟩) ?_ ?_
 rotate_left
 ·intro w'
  go_simp
  with_reducible rfl
 rotate_left
 ·exact aP
 refine one_ (i := 9) (N := some 27) #[tt, tt, tt, tt, tt, tt, tt, tt, tt, tt, ff, tt, tt, tt, ff, ff, tt, tt, tt, ff, ff, ff, tt, ff, ff] rfl rfl (one_of HT_.out (by kernel_rfl)) (by decide) (fun K hK => ?_)
 refine Kd.R_lit_step (Kd.int .i64) _ 3 ?hg (N := 27) ?hd (xs := ([a0_0, a0_1, a0_2, wrap64 (Int.tdiv a0_2 256)] : List Int)) (inner := [.int .i64 a0_0, .int .i64 a0_1, .int .i64 a0_2, .int .i64 (wrap64 (Int.tdiv a0_2 256))]) (ok := fun _ => True) (okp := fun _ => True) ?hr ?hp (fun _ hk => hk) trivial (Below.refl _ _) (Nat.le_refl _) (by simp) ?_; (case hd => rfl); (case hg => rfl); (case hr => first | (go_simp; done) | (go_simp; rfl)); (case hp => exact (Reps.one (show Kd.M (Kd.int .i64) _ _ _ a0_0 [.int .i64 a0_0] from rfl) (Reps.one (show Kd.M (Kd.int .i64) _ _ _ a0_1 [.int .i64 a0_1] from rfl) (Reps.one (show Kd.M (Kd.int .i64) _ _ _ a0_2 [.int .i64 a0_2] from rfl) (Reps.one (show Kd.M (Kd.int .i64) _ _ _ (wrap64 (Int.tdiv a0_2 256)) [.int .i64 (wrap64 (Int.tdiv a0_2 256))] from rfl) (Reps.none _ _))))))
 intro v134 w35 ho36 hb hg_ hnew_
 clear hg_ hnew_
 (first | rw [← Ny133.out] at ho36 | (simp only [Int.reduceToNat] at ho36; rw [← Ny133.out] at ho36))
 have HO135 := as_ (Kd.R_lower ho36 (below_size bA))
 replace BK131 := bb BK131 hb
 replace HB := as_ (below_step bA hb)
 clear hb ho36
 obtain ⟨Ao37, co37, eo37⟩ := Kd.R_slice HO135.out
 (first | subst eo37 | (injection eo37 with f1_ f2_ f3_; have f4_ := f1_.symm; have f5_ := f3_.symm; clear f1_ f2_ f3_; subst f4_; subst f5_))
 refine hK.out _ _ ⟨(blk_cell BK131.out 0).trans rfl, (blk_cell BK131.out 1).trans rfl, (blk_cell BK131.out 2).trans rfl, (blk_cell BK131.out 3).trans rfl, (blk_cell BK131.out 4).trans rfl⟩ (fun hHeld => ?_)
 clear hK K
 refine norm_ (a' := ?_) ?_ ?_
 rotate_left
 ·show Act.put _ (some 27) _ = _
  simp only [Act.put, List.setIfInBounds_toArray, List.set_cons_zero, List.set_cons_succ, i64_w, i32_w]
  rfl
 refine one_ (i := 10) (N := some 28) #[tt, tt, tt, tt, tt, tt, tt, tt, tt, tt, tt, tt, tt, tt, ff, ff, tt, tt, tt, ff, ff, ff, tt, ff, ff] rfl rfl (one_of HT_.out (by kernel_rfl)) (by decide) (fun K hK => ?_)
 refine goes_ Try.func22 (by kernel_rfl) rfl #[.slice Ao37 y133.length co37] (by rfl) rfl rfl aO ?_
 with_reducible refine (head_bytes.calls k _ _ y133 t136 _ ?side1 ?side2 A6.out).mono ?_
 (case side1 => repeat (first | exact (Kd.R_reads' HO135.out).2.2 | (with_reducible refine Kd.C_alloc ?_ _) | (with_reducible refine Kd.C_drewN ?_ _) | (with_reducible refine Kd.C_drew ?_)))
 (case side2 => exact (Kd.R_reads' HO135.out).2.1)
 rintro e w38 ⟨rfl, hb⟩
 refine ⟨_, rfl, ?_⟩
 replace HO135 := as_ (Kd.R_below (by (with_reducible repeat (first | apply Kd.R_alloc | apply Kd.R_drewN | apply Kd.R_drew)); exact HO135.out) hb)
 replace BK131 := bb BK131 hb
 replace HB := as_ (below_step bA hb)
 (try clear hb)
 (try clear hb2)
 (try clear hk)
 (try clear hi)
 refine hK.out _ _ ⟨(blk_cell BK131.out 0).trans rfl, (blk_cell BK131.out 1).trans rfl, (blk_cell BK131.out 2).trans rfl, (blk_cell BK131.out 3).trans rfl, (blk_cell BK131.out 4).trans rfl⟩ (fun hHeld => ?_)
 clear hK K
 refine norm_ (a' := ?_) ?_ ?_
 rotate_left
 ·show Act.put _ (some 28) _ = _
  simp only [Act.put, List.setIfInBounds_toArray, List.set_cons_zero, List.set_cons_succ, i64_w, i32_w]
  rfl
 refine one_ (i := 14) (N := some 32) #[tt, tt, tt, tt, tt, tt, tt, tt, tt, tt, tt, tt, tt, tt, tt, ff, tt, tt, tt, ff, ff, ff, tt, ff, ff] rfl rfl (one_of HT_.out (by kernel_rfl)) (by decide) (fun K hK => ?_)
 refine goes_ Try.func23 (by kernel_rfl) rfl #[.int .u32 ((a0_3) % 4294967296)] (by rfl) rfl rfl aO ?_
 with_reducible refine (word_Four.calls ((a0_3) % 4294967296) t137 _ A7.out).mono ?_
 rintro e w39 ⟨rfl, hb⟩
 refine ⟨_, rfl, ?_⟩
 replace HO135 := as_ (Kd.R_below (by (with_reducible repeat (first | apply Kd.R_alloc | apply Kd.R_drewN | apply Kd.R_drew)); exact HO135.out) hb)
 replace BK131 := bb BK131 hb
 replace HB := as_ (below_step bA hb)
 (try clear hb)
 (try clear hb2)
 (try clear hk)
 (try clear hi)
 refine hK.out _ _ ⟨(blk_cell BK131.out 0).trans rfl, (blk_cell BK131.out 1).trans rfl, (blk_cell BK131.out 2).trans rfl, (blk_cell BK131.out 3).trans rfl, (blk_cell BK131.out 4).trans rfl⟩ (fun hHeld => ?_)
 clear hK K
 refine norm_ (a' := ?_) ?_ ?_
 rotate_left
 ·show Act.put _ (some 32) _ = _
  simp only [Act.put, List.setIfInBounds_toArray, List.set_cons_zero, List.set_cons_succ, i64_w, i32_w]
  rfl
 refine pure_ (i := 15) (N := some 33) (v := ?_) (a' := ?_) #[tt, tt, tt, tt, tt, tt, tt, tt, tt, tt, tt, tt, tt, tt, tt, tt, tt, tt, tt, ff, ff, ff, tt, ff, ff] rfl rfl (any_of HT_.out (by kernel_rfl)) (fun _ _ _ h => h) (Or.inl ⟨by rfl, ?_⟩) ?_ ?_
 rotate_left
 ·intro w'
  go_simp
  with_reducible rfl
 rotate_left
 ·exact aP
 refine one_ (i := 19) (N := some 37) #[tt, tt, tt, tt, tt, tt, tt, tt, tt, tt, tt, tt, tt, tt, tt, tt, tt, tt, tt, tt, ff, ff, tt, ff, ff] rfl rfl (one_of HT_.out (by kernel_rfl)) (by decide) (fun K hK => ?_)
 refine goes_ Try.func23 (by kernel_rfl) rfl #[.int .u32 ((a0_4) % 4294967296)] (by rfl) rfl rfl aO ?_
 with_reducible refine (word_Four.calls ((a0_4) % 4294967296) t138 _ A10.out).mono ?_
 rintro e w40 ⟨rfl, hb⟩
 refine ⟨_, rfl, ?_⟩
 replace HO135 := as_ (Kd.R_below (by (with_reducible repeat (first | apply Kd.R_alloc | apply Kd.R_drewN | apply Kd.R_drew)); exact HO135.out) hb)
 replace BK131 := bb BK131 hb
 replace HB := as_ (below_step bA hb)
 (try clear hb)
 (try clear hb2)
 (try clear hk)
 (try clear hi)
 refine hK.out _ _ ⟨(blk_cell BK131.out 0).trans rfl, (blk_cell BK131.out 1).trans rfl, (blk_cell BK131.out 2).trans rfl, (blk_cell BK131.out 3).trans rfl, (blk_cell BK131.out 4).trans rfl⟩ (fun hHeld => ?_)
 clear hK K
 refine norm_ (a' := ?_) ?_ ?_
 rotate_left
 ·show Act.put _ (some 37) _ = _
  simp only [Act.put, List.setIfInBounds_toArray, List.set_cons_zero, List.set_cons_succ, i64_w, i32_w]
  rfl
 refine pure_ (i := 20) (N := some 38) (v := ?_) (a' := ?_) #[tt, tt, tt, tt, tt, tt, tt, tt, tt, tt, tt, tt, tt, tt, tt, tt, tt, tt, tt, tt, tt, ff, tt, ff, ff] rfl rfl (any_of HT_.out (by kernel_rfl)) (fun _ _ _ h => h) (Or.inl ⟨by rfl, ?_⟩) ?_ ?_
 rotate_left
 ·intro w'
  go_simp
  with_reducible rfl
 rotate_left
 ·exact aP
 refine pure_ (i := 21) (N := some 39) (v := ?_) (a' := ?_) #[tt, tt, tt, tt, tt, tt, tt, tt, tt, tt, tt, tt, tt, tt, tt, tt, tt, tt, tt, tt, tt, tt, tt, ff, ff] rfl rfl (any_of HT_.out (by kernel_rfl)) (fun _ _ _ h => h) (Or.inl ⟨by rfl, ?_⟩) ?_ ?_
 rotate_left
 ·intro w'
  go_simp
  with_reducible rfl
 rotate_left
 ·exact aP
 refine pure_ (i := 23) (N := some 41) (v := ?_) (a' := ?_) #[tt, tt, tt, tt, tt, tt, tt, tt, tt, tt, tt, tt, tt, tt, tt, tt, tt, tt, tt, tt, tt, tt, tt, tt, ff] rfl rfl (any_of HT_.out (by kernel_rfl)) (fun _ _ _ h => h) (Or.inl ⟨by rfl, ?_⟩) ?_ ?_
 rotate_left
 ·intro w'
  go_simp
  with_reducible rfl
 rotate_left
 ·exact aP
 refine pure_ (i := 24) (N := some 9) (v := ?_) (a' := ?_) #[tt, tt, tt, tt, tt, tt, tt, tt, tt, tt, tt, tt, tt, tt, tt, tt, tt, tt, tt, tt, tt, tt, tt, tt, tt] rfl rfl (any_of HT_.out (by kernel_rfl)) (fun _ _ _ h => h) (Or.inl ⟨by rfl, ?_⟩) ?_ ?_
 rotate_left
 ·intro w'
  go_simp
  with_reducible rfl
 rotate_left
 ·exact aP
 refine done_ (done_of HT_.out (by kernel_rfl)) ?_
 try go_wp2_with (first | ((with_reducible refine gate_callee (f := 24) rfl ?_); refine goesL_ (some 47) rfl rfl Try.func24 (by kernel_rfl) rfl #[.string (⟨#[0]⟩ : ByteArray), .int .i64 (wrap64 (a2 - ((js16).size : Int)))] rfl aO ?_; (first | (with_reducible refine (strings_Repeat.calls (⟨#[0]⟩ : ByteArray) (wrap64 (a2 - ((js16).size : Int))) t139 _ A17.out).mono ?_) | (with_reducible refine (strings_Repeat.calls (⟨#[0]⟩ : ByteArray) (a2 - ((js16).size : Int)) t139 _ (by have e_ := A17.out; rwa [(by unfold wrap64; omega : wrap64 (a2 - ((js16).size : Int)) = (a2 - ((js16).size : Int)))] at e_)).mono ?_)); rintro e w41 ⟨rfl, hb⟩; refine ⟨_, rfl, ?_⟩; replace HO135 := as_ (Kd.R_below (by (with_reducible repeat (first | apply Kd.R_alloc | apply Kd.R_drewN | apply Kd.R_drew)); exact HO135.out) hb); replace BK131 := bb BK131 hb; replace HB := as_ (below_step bA hb); (try clear hb); (try clear hb2); (try clear hk); (try clear hi)))
 replace HO135 := as_ (Kd.R_drew HO135.out)
 replace BK131 := as_ (blk_drew BK131.out)
 replace HB := as_ (below_drew1 HB.out)
 refine start_ (n := 11) (S := fun w' => True) (ds := []) #[ff, ff, ff, ff, ff, ff, ff, ff, ff, ff, ff] (by kernel_rfl) rfl rfl trivial (fun hHeld => ?_); refine with_tabW head_Seal.tab6 head_Seal.bits6 (fun HT_ HW_ => ?_)
 generalize w41.drew = w42 at HO135 BK131 HB hHeld ⊢
 refine pure_ (i := 0) (N := some 49) (v := ?_) (a' := ?_) #[tt, ff, ff, ff, ff, ff, ff, ff, ff, ff, ff] rfl rfl (any_of HT_.out (by kernel_rfl)) (fun _ _ _ h => h) (Or.inl ⟨by rfl, ?_⟩) ?_ ?_
 rotate_left
 ·intro w'
  go_simp
  with_reducible rfl
 rotate_left
 ·exact aP
 refine pure_ (i := 1) (N := some 50) (v := ?_) (a' := ?_) #[tt, tt, ff, ff, ff, ff, ff, ff, ff, ff, ff] rfl rfl (any_of HT_.out (by kernel_rfl)) (fun _ _ _ h => h) (Or.inl ⟨by rfl, ?_⟩) ?_ ?_
 rotate_left
 ·intro w'
  go_simp
  with_reducible rfl
 rotate_left
 ·exact aP
 refine pure_ (i := 2) (N := some 51) (v := ?_) (a' := ?_) #[tt, tt, tt, ff, ff, ff, ff, ff, ff, ff, ff] rfl rfl (any_of HT_.out (by kernel_rfl)) (fun _ _ _ h => h) (Or.inl ⟨by rfl, ?_⟩) ?_ ?_
 rotate_left
 ·intro w'
  go_simp
  with_reducible rfl
 rotate_left
 ·exact aP
 refine pure_ (i := 6) (N := some 55) (v := ?_) (a' := ?_) #[tt, tt, tt, ff, ff, ff, tt, ff, ff, ff, ff] rfl rfl (any_of HT_.out (by kernel_rfl)) (fun _ _ _ h => h) (Or.inl ⟨by rfl, ?_⟩) ?_ ?_
 rotate_left
 ·intro w'
  go_simp
  with_reducible rfl
 rotate_left
 ·exact aP
 refine pure_ (i := 7) (N := some 56) (v := ?_) (a' := ?_) #[tt, tt, tt, ff, ff, ff, tt, tt, ff, ff, ff] rfl rfl (any_of HT_.out (by kernel_rfl)) (fun _ _ _ h => h) (Or.inl ⟨by rfl, ?_⟩) ?_ ?_
 rotate_left
 ·intro w'
  go_simp
  with_reducible rfl
 rotate_left
 ·exact aP
 refine one_ (i := 3) (N := some 52) #[tt, tt, tt, tt, ff, ff, tt, tt, ff, ff, ff] rfl rfl (one_of HT_.out (by kernel_rfl)) (by decide) (fun K hK => ?_)
 refine goes_ Try.func25 (by kernel_rfl) rfl #[.string js19] (by rfl) rfl rfl aO ?_
 with_reducible refine (sum_Table.calls js19 t140 _ A23.out).mono ?_
 rintro e w43 ⟨rfl, hb⟩
 refine ⟨_, rfl, ?_⟩
 replace HO135 := as_ (Kd.R_below (by (with_reducible repeat (first | apply Kd.R_alloc | apply Kd.R_drewN | apply Kd.R_drew)); exact HO135.out) hb)
 replace BK131 := bb BK131 hb
 replace HB := as_ (below_step bA hb)
 (try clear hb)
 (try clear hb2)
 (try clear hk)
 (try clear hi)
 refine hK.out _ _ trivial (fun hHeld => ?_)
 clear hK K
 refine norm_ (a' := ?_) ?_ ?_
 rotate_left
 ·show Act.put _ (some 52) _ = _
  simp only [Act.put, List.setIfInBounds_toArray, List.set_cons_zero, List.set_cons_succ, i64_w, i32_w]
  rfl
 refine one_ (i := 4) (N := some 53) #[tt, tt, tt, tt, tt, ff, tt, tt, ff, ff, ff] rfl rfl (one_of HT_.out (by kernel_rfl)) (by decide) (fun K hK => ?_)
 refine goes_ Try.func23 (by kernel_rfl) rfl #[.int .u32 t140] (by rfl) rfl rfl aO ?_
 with_reducible refine (word_Four.calls t140 t141 _ A24.out).mono ?_
 rintro e w44 ⟨rfl, hb⟩
 refine ⟨_, rfl, ?_⟩
 replace HO135 := as_ (Kd.R_below (by (with_reducible repeat (first | apply Kd.R_alloc | apply Kd.R_drewN | apply Kd.R_drew)); exact HO135.out) hb)
 replace BK131 := bb BK131 hb
 replace HB := as_ (below_step bA hb)
 (try clear hb)
 (try clear hb2)
 (try clear hk)
 (try clear hi)
 refine hK.out _ _ trivial (fun hHeld => ?_)
 clear hK K
 refine norm_ (a' := ?_) ?_ ?_
 rotate_left
 ·show Act.put _ (some 53) _ = _
  simp only [Act.put, List.setIfInBounds_toArray, List.set_cons_zero, List.set_cons_succ, i64_w, i32_w]
  rfl
 refine pure_ (i := 5) (N := some 54) (v := ?_) (a' := ?_) #[tt, tt, tt, tt, tt, tt, tt, tt, ff, ff, ff] rfl rfl (any_of HT_.out (by kernel_rfl)) (fun _ _ _ h => h) (Or.inl ⟨by rfl, ?_⟩) ?_ ?_
 rotate_left
 ·intro w'
  go_simp
  with_reducible rfl
 rotate_left
 ·exact aP
 refine pure_ (i := 8) (N := some 57) (v := ?_) (a' := ?_) #[tt, tt, tt, tt, tt, tt, tt, tt, tt, ff, ff] rfl rfl (any_of HT_.out (by kernel_rfl)) (fun _ _ _ h => h) (Or.inl ⟨by rfl, ?_⟩) ?_ ?_
 rotate_left
 ·intro w'
  go_simp
  with_reducible rfl
 rotate_left
 ·exact aP
 refine pure_ (i := 9) (N := some 6) (v := ?_) (a' := ?_) #[tt, tt, tt, tt, tt, tt, tt, tt, tt, tt, ff] rfl rfl (any_of HT_.out (by kernel_rfl)) (fun _ _ _ h => h) (Or.inl ⟨by rfl, ?_⟩) ?_ ?_
 rotate_left
 ·intro w'
  go_simp
  with_reducible rfl
 rotate_left
 ·exact aP
 refine pure_ (i := 10) (N := some 7) (v := ?_) (a' := ?_) #[tt, tt, tt, tt, tt, tt, tt, tt, tt, tt, tt] rfl rfl (any_of HT_.out (by kernel_rfl)) (fun _ _ _ h => h) (Or.inl ⟨by rfl, ?_⟩) ?_ ?_
 rotate_left
 ·intro w'
  go_simp
  with_reducible rfl
 rotate_left
 ·exact aP
 refine done_ (done_of HT_.out (by kernel_rfl)) ?_
 try go_wp2
 go_ret2
 exact ⟨by first | rfl | (simp [errW_none, errW_some] <;> rfl) | (simp only [← hjs9, ← hjs12, ← hjs14, ← hjs16, ← hjs19, ← hjs22, ← hjs26, ← hjs28, ← hjs30]; first | rfl | (simp [errW_none, errW_some] <;> rfl)) | (simp [*, errW_none, errW_some] <;> rfl), by repeat (first | (with_reducible first | exact HB.out | apply below_alloc | apply pw_below_drewN | apply below_drew1 | refine below_set ?_ GE131.out) | exact HB.out)⟩
/-! ### word_Read: function 29 -/
mutual
def word_Read.j0 : Nat → ByteArray → Int → Bool → Option (Int × Int)
 | 0, _, _, _ => none
 | k + 1, x0, x1, x15 => if x15 = true then (some (0, 4)) else (if (wrap64 ((x0.size : Int) - x1)) < 4 then (some (0, 7)) else (word_Read.l0 k x0 x1 0 0))
def word_Read.l0 : Nat → ByteArray → Int → Int → Int → Option (Int × Int)
 | 0, _, _, _, _ => none
 | k + 1, x0, x1, x6, x21 => if x21 < 4 then (if 0 ≤ (wrap64 (x1 + x21)) then (if (wrap64 (x1 + x21)) < (x0.size : Int) then (if 0 ≤ (wrap64 (8 * x21)) then (word_Read.l0 k x0 x1 (Go.bits .or .u32 x6 (shl .u32 ((bt x0 (wrap64 (x1 + x21))) % 4294967296) (wrap64 (8 * x21)))) (wrap64 (x21 + 1))) else (none)) else (none)) else (none)) else (some (x6, 0))
end
def word_Read.f (k : Nat) (a0 : ByteArray) (a1 : Int) : Option (Int × Int) := if a1 < 0 then (word_Read.j0 k a0 a1 true) else (word_Read.j0 k a0 a1 (decide (a1 > (a0.size : Int))))
theorem word_Read.mono_l : ∀ k, (∀ y0 y1 y2, LeO (word_Read.j0 k y0 y1 y2) (word_Read.j0 (k + 1) y0 y1 y2)) ∧ (∀ y0 y1 y2 y3, LeO (word_Read.l0 k y0 y1 y2 y3) (word_Read.l0 (k + 1) y0 y1 y2 y3))
 | 0 => ⟨fun _ _ _ r h => by simp [word_Read.j0] at h, fun _ _ _ _ r h => by simp [word_Read.l0] at h⟩
 | k + 1 => by
  obtain ⟨ih0, ih1⟩ := word_Read.mono_l k
  refine ⟨?_, ?_⟩
  ·intro y0 y1 y2
   unfold word_Read.j0
   repeat' first
   | (with_reducible exact ih0 _ _ _)
   | (with_reducible exact ih1 _ _ _ _)
   | (with_reducible exact LeO.refl _)
   | (with_reducible exact LeO.none _)
   | (with_reducible refine LeO.ite ?_ ?_)
   | (with_reducible refine LeO.bind ?_ (fun _ => ?_))
   | exact ih0 _ _ _
   | exact ih1 _ _ _ _
   | exact LeO.none _
   | refine LeO.ite ?_ ?_
   | refine LeO.bind ?_ (fun _ => ?_)
  ·intro y0 y1 y2 y3
   unfold word_Read.l0
   repeat' first
   | (with_reducible exact ih0 _ _ _)
   | (with_reducible exact ih1 _ _ _ _)
   | (with_reducible exact LeO.refl _)
   | (with_reducible exact LeO.none _)
   | (with_reducible refine LeO.ite ?_ ?_)
   | (with_reducible refine LeO.bind ?_ (fun _ => ?_))
   | exact ih0 _ _ _
   | exact ih1 _ _ _ _
   | exact LeO.none _
   | refine LeO.ite ?_ ?_
   | refine LeO.bind ?_ (fun _ => ?_)
theorem word_Read.mono : ∀ a0 a1 k, LeO (word_Read.f k a0 a1) (word_Read.f (k + 1) a0 a1) := by
 intro a0 a1 k
 obtain ⟨ih0, ih1⟩ := word_Read.mono_l k
 unfold word_Read.f
 repeat' first
   | (with_reducible exact ih0 _ _ _)
   | (with_reducible exact ih1 _ _ _ _)
   | (with_reducible exact LeO.refl _)
   | (with_reducible exact LeO.none _)
   | (with_reducible refine LeO.ite ?_ ?_)
   | (with_reducible refine LeO.bind ?_ (fun _ => ?_))
   | exact ih0 _ _ _
   | exact ih1 _ _ _ _
   | exact LeO.none _
   | refine LeO.ite ?_ ?_
   | refine LeO.bind ?_ (fun _ => ?_)
set_option maxHeartbeats 8000000 in
set_option maxRecDepth 100000 in
theorem word_Read.calls (k : Nat) (a0 : ByteArray) (a1 : Int) (r1 : Int) (r2 : Int) (w : World) (h : word_Read.f k a0 a1 = some (r1, r2)) :
  Calls Try.prog 29 #[.string a0, .int .i64 a1] w fun e w' => e = .returned (.tuple #[.int .u32 r1, .int .i64 r2]) ∧ Drawn0 w w' := by
 have H : (if a1 < 0 then (word_Read.j0 k a0 a1 true) else (word_Read.j0 k a0 a1 (decide (a1 > (a0.size : Int))))) = some (r1, r2) := h
 clear h
 have HC3 := Aside0.mk H
 clear H
 go_enter Try.func29, Try.ntmps29
 go_upto_region 1 with (fail)
 go_cut [15] (fun v15 wc => ∃ (kq : Nat) (x15_2 : Bool), v15 = .bool x15_2 ∧ Aside0 (word_Read.j0 kq a0 a1 x15_2 = some (r1, r2)) ∧ Aside0 (kq ≤ k) ∧ Drawn0 w wc)
 case first =>
  have H := HC3.out
  clear HC3
  by_cases c4 : a1 < 0
  rotate_left
  ·rw [if_neg c4] at H
   have c4b0 : decide (a1 < 0) = false := decide_eq_false c4
   clear c4
   (first | rw [c4b0] | (simp only [i64_w, i32_w]; rw [c4b0]) | rw [c4b1] | skip)
   have H' := Aside0.mk H
   clear H
   go_wp2
   go_meet
   case rel => exact ⟨_, (decide (a1 > (a0.size : Int))), (by first | rfl | (simp; done) | (simp [*]; done)), H', ⟨by first | omega | exact Nat.le_refl _⟩, by repeat (first | exact Drawn0.refl _ | apply Drawn0.step)⟩
  rw [if_pos c4] at H
  have c4b0 : decide (a1 < 0) = true := decide_eq_true c4
  clear c4
  (first | rw [c4b0] | (simp only [i64_w, i32_w]; rw [c4b0]) | rw [c4b1] | skip)
  have H' := Aside0.mk H
  clear H
  go_wp2
  go_meet
  case rel => exact ⟨_, (true), (by first | rfl | (simp; done) | (simp [*]; done)), H', ⟨by first | omega | exact Nat.le_refl _⟩, by repeat (first | exact Drawn0.refl _ | apply Drawn0.step)⟩
 case rest =>
  clear HC3
  try clear c2
  try clear p2
  try clear c4
  try clear c4b0
  try clear c4b1
  obtain ⟨kq, x15_2, rfl, HA, HJ2, ⟨mc2, rfl⟩⟩ := hcut
  cases kq with
  | zero => exact absurd HA.out (by simp [word_Read.j0])
  | succ kj2 =>
   have H := HA.out
   clear HA
   simp only [word_Read.j0] at H
   by_cases c5 : x15_2 = true
   ·subst c5
    have H1 : (some (0, 4)) = some (r1, r2) := by rw [if_pos rfl] at H; exact H
    clear H
    have H := H1
    clear H1
    simp only [Option.some.injEq, Prod.mk.injEq] at H
    obtain ⟨rfl, rfl⟩ := H
    go_wp2
    go_ret2
    exact ⟨by first | rfl | (simp; done) | (simp [*]; done), by repeat (first | exact Drawn0.refl _ | apply Drawn0.step)⟩
   replace c5 := Bool.eq_false_iff.mpr c5
   subst c5
   have H1 : (if (wrap64 ((a0.size : Int) - a1)) < 4 then (some (0, 7)) else (word_Read.l0 kj2 a0 a1 0 0)) = some (r1, r2) := by rw [if_neg (show ¬ (false = true) by decide)] at H; exact H
   clear H
   have H := H1
   clear H1
   by_cases c6 : (wrap64 ((a0.size : Int) - a1)) < 4
   ·rw [if_pos c6] at H
    have c6b0 : decide ((wrap64 ((a0.size : Int) - a1)) < 4) = true := decide_eq_true c6
    clear c6
    simp only [Option.some.injEq, Prod.mk.injEq] at H
    obtain ⟨rfl, rfl⟩ := H
    go_wp2
    go_ret2
    exact ⟨by first | rfl | (simp; done) | (simp [*]; done), by repeat (first | exact Drawn0.refl _ | apply Drawn0.step)⟩
   rw [if_neg c6] at H
   have c6b0 : decide ((wrap64 ((a0.size : Int) - a1)) < 4) = false := decide_eq_false c6
   clear c6
   have H' := Aside0.mk H
   clear H
   go_wp2
   go_loopg [6, 21] kj2 (fun kq v6 v21 w' => ∃ (x6_2 : Int) (x21_2 : Int), v6 = .int .u32 x6_2 ∧ v21 = .int .i64 x21_2 ∧ Aside0 (word_Read.l0 kq a0 a1 x6_2 x21_2 = some (r1, r2)) ∧ Aside0 (kq ≤ kj2) ∧ Drawn0 w w')
   case atStart => exact ⟨(0), (0), (by first | rfl | (simp; done) | (simp [*]; done)), (by first | rfl | (simp; done) | (simp [*]; done)), H', ⟨Nat.le_refl _⟩, by repeat (first | exact Drawn0.refl _ | apply Drawn0.step)⟩
   case round =>
    clear H'
    try clear c2
    try clear p2
    try clear c4
    try clear c4b0
    try clear c4b1
    try clear c5
    try clear c6
    try clear c6b0
    try clear p6
    try clear p2
    obtain ⟨x6_2, x21_2, rfl, rfl, HA, HK2, ⟨m2, rfl⟩⟩ := hrel
    cases gk with
    | zero => exact absurd HA.out (by simp [word_Read.l0])
    | succ k2 =>
     have H := HA.out
     clear HA
     simp only [word_Read.l0] at H
     by_cases c7 : x21_2 < 4
     rotate_left
     ·rw [if_neg c7] at H
      have c7b0 : decide (x21_2 < 4) = false := decide_eq_false c7
      clear c7
      simp only [Option.some.injEq, Prod.mk.injEq] at H
      obtain ⟨rfl, rfl⟩ := H
      go_wp2
      go_ret2
      exact ⟨by first | rfl | (simp; done) | (simp [*]; done), by repeat (first | exact Drawn0.refl _ | apply Drawn0.step)⟩
 
     rw [if_pos c7] at H
     have c7b0 : decide (x21_2 < 4) = true := decide_eq_true c7
     clear c7
     obtain ⟨ji8, hji8⟩ : ∃ j_ : Int, (wrap64 (a1 + x21_2)) = j_ := ⟨_, rfl⟩
     replace H : (if 0 ≤ (ji8) then (if (ji8) < (a0.size : Int) then (if 0 ≤ (wrap64 (8 * x21_2)) then (word_Read.l0 k2 a0 a1 (Go.bits .or .u32 x6_2 (shl .u32 ((bt a0 (ji8)) % 4294967296) (wrap64 (8 * x21_2)))) (wrap64 (x21_2 + 1))) else (none)) else (none)) else (none)) = some (r1, r2) := by first | (rw [hji8] at H; exact H) | (simp only [hji8] at H ⊢; exact H)
     have hji8w : (IntKind.i64.wrap (a1 + x21_2)) = ji8 := (i64_w _).trans hji8
     by_cases c9 : 0 ≤ (ji8)
     rotate_left
     ·rw [if_neg c9] at H
      exact absurd H (by simp)
     rw [if_pos c9] at H
     have c9b0 : decide (0 ≤ (ji8)) = true := decide_eq_true c9
     clear c9
     by_cases c10 : (ji8) < (a0.size : Int)
     rotate_left
     ·rw [if_neg c10] at H
      exact absurd H (by simp)
     rw [if_pos c10] at H
     have c10b0 : decide ((ji8) < (a0.size : Int)) = true := decide_eq_true c10
     clear c10
     obtain ⟨ji12, hji12⟩ : ∃ j_ : Int, (wrap64 (8 * x21_2)) = j_ := ⟨_, rfl⟩
     replace H : (if 0 ≤ (ji12) then (word_Read.l0 k2 a0 a1 (Go.bits .or .u32 x6_2 (shl .u32 ((bt a0 (ji8)) % 4294967296) (ji12))) (wrap64 (x21_2 + 1))) else (none)) = some (r1, r2) := by first | (rw [hji12] at H; exact H) | (simp only [hji12] at H ⊢; exact H)
     have hji12w : (IntKind.i64.wrap (8 * x21_2)) = ji12 := (i64_w _).trans hji12
     by_cases c13 : 0 ≤ (ji12)
     rotate_left
     ·rw [if_neg c13] at H
      exact absurd H (by simp)
     rw [if_pos c13] at H
     have c13b0 := eq_true c13
     have c13b1 : decide (0 ≤ (ji12)) = true := decide_eq_true c13
     clear c13
     obtain ⟨ji14, hji14⟩ : ∃ j_ : Int, (shl .u32 ((bt a0 (ji8)) % 4294967296) (ji12)) = j_ := ⟨_, rfl⟩
     replace H : (word_Read.l0 k2 a0 a1 (Go.bits .or .u32 x6_2 (ji14)) (wrap64 (x21_2 + 1))) = some (r1, r2) := by first | (rw [hji14] at H; exact H) | (simp only [hji14] at H ⊢; exact H)
     have hji14_ : (IntKind.u32.wrap (((bt a0 (ji8)) % 4294967296) * 2 ^ min (ji12).toNat 32)) = ji14 := hji14
     have hji14z : (ji12) ≤ 32 → (IntKind.u32.wrap (((bt a0 (ji8)) % 4294967296) * 2 ^ (ji12).toNat)) = ji14 := shl_small hji14
     have H' := Aside0.mk H
     clear H
     have p11 : 0 ≤ ((ji8) : Int) := of_decide_eq_true aM
     have q11 : (ji8) < (a0.size : Int) := of_decide_eq_true aM
     have hx11 := bt_at a0 (ji8)
     replace p11 := eq_true p11
     replace q11 := eq_true q11
     go_wp2
     go_roundg k2
     case measure => have := HJ2.out; have := HK2.out; omega
     case rel => exact ⟨(Go.bits .or .u32 x6_2 (ji14)), (wrap64 (x21_2 + 1)), (by first | rfl | (simp; done) | (simp only [← hji14] <;> (first | rfl | simp)) | (simp [*]; done)), (by first | rfl | (simp; done) | (simp [*]; done)), H', ⟨by have := HJ2.out; have := HK2.out; omega⟩, by repeat (first | exact Drawn0.refl _ | apply Drawn0.step)⟩
end Go.Proofs.Ytnfnmjjdcaphjaa.P
