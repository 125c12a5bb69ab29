/- What is proved here: for functions of the Go text, a Lean function each, and that the call comes to just what it answers. Conditions: as each contract names them. Written by wip/tools/myprint.py, a driver of the print of the kit. -/
import Derived.Test.YtafebmhmcdnhkaaGreatP0
import Derived.Test.YtafebmhmcdnhkaaGreatP1
import Derived.Test.YtafebmhmcdnhkaaGreatWAbbr
namespace Go.Proofs.YtafebmhmcdnhkaaGreat.P
open Go.RowKit Go.Proofs.YtafebmhmcdnhkaaGreatW.PrintWords Go.Proofs.YtafebmhmcdnhkaaGreatW.PrintLast Go.Proofs.YtafebmhmcdnhkaaGreatW.PrintMore Go.Proofs.YtafebmhmcdnhkaaGreatW.Abbr
-- PACKED
attribute [local go_sem] max2_int min2_int max_two min_two max_three min_three max_four min_four Go.Proofs.YtafebmhmcdnhkaaGreatLaws.str_leq Go.Proofs.YtafebmhmcdnhkaaGreatLaws.str_gtr Go.Proofs.YtafebmhmcdnhkaaGreatLaws.str_geq Go.Proofs.YtafebmhmcdnhkaaGreatLaws.max2_str Go.Proofs.YtafebmhmcdnhkaaGreatLaws.min2_str   -- for this text's walks alone
set_option linter.unusedVariables false
set_option linter.unusedSimpArgs false

/-! ### withylaw11_Cut: function 9 -/
def withylaw11_Cut.f (k : Nat) (a0_0 : Int) (a0_1 : Int) (a0_2 : Int) (a0_3 : ByteArray) (l0_4 : List Int) (l0_5 : List ByteArray) : Option (Int × Int × Int × ByteArray × List Int × List ByteArray) := if 0 ≤ (mn (a0_3.size : Int) 140) then (if (mn (a0_3.size : Int) 140) ≤ (a0_3.size : Int) then ((some (([] : List Int) : List Int)).bind fun y111 => (if 0 ≤ (mn (l0_4.length : Int) 30) then (if (mn (l0_4.length : Int) 30) ≤ (l0_4.length : Int) then (if y111.length + (l0_4.take ((mn (l0_4.length : Int) 30) : Int).toNat).length < 17592186044416 then ((some (y111 ++ (l0_4.take ((mn (l0_4.length : Int) 30) : Int).toNat) : List Int)).bind fun y115 => ((withylaw05_Cut.f k l0_5).bind fun t118 => (if (l0_5.length : Int) > 0 then (if 0 < (l0_5.length : Int) then (if 0 ≤ (mn ((rdOf ByteArray.empty l0_5 0).size : Int) 140) then (if (mn ((rdOf ByteArray.empty l0_5 0).size : Int) 140) ≤ ((rdOf ByteArray.empty l0_5 0).size : Int) then (if 0 < (t118.length : Int) then (some (a0_0, a0_1, a0_2, a0_3.extract 0 ((mn (a0_3.size : Int) 140) : Int).toNat, y115, (t118.set (0 : Int).toNat ((rdOf ByteArray.empty l0_5 0).extract 0 ((mn ((rdOf ByteArray.empty l0_5 0).size : Int) 140) : Int).toNat)))) else (none)) else (none)) else (none)) else (none)) else (some (a0_0, a0_1, a0_2, a0_3.extract 0 ((mn (a0_3.size : Int) 140) : Int).toNat, y115, t118))))) else (none)) else (none)) else (none))) else (none)) else (none)
theorem withylaw11_Cut.mono : ∀ a0 a1 a2 a3 a4 a5 k, LeO (withylaw11_Cut.f k a0 a1 a2 a3 a4 a5) (withylaw11_Cut.f (k + 1) a0 a1 a2 a3 a4 a5) := by
 intro a0 a1 a2 a3 a4 a5 k
 unfold withylaw11_Cut.f
 repeat' first
   | (with_reducible exact withylaw05_Cut.mono _ _)
   | (with_reducible exact LeO.refl _)
   | (with_reducible exact LeO.none _)
   | (with_reducible refine LeO.ite ?_ ?_)
   | (with_reducible refine LeO.bind ?_ (fun _ => ?_))
   | exact withylaw05_Cut.mono _ _
   | exact LeO.none _
   | refine LeO.ite ?_ ?_
   | refine LeO.bind ?_ (fun _ => ?_)
def withylaw11_Cut.T1 : Bool × List (List Nat × List Nat) := (true, [([], []), ([0], [0]), ([], []), ([2], [2]), ([], []), ([4], [4]), ([], []), ([6], [6]), ([], []), ([8], [8]), ([9], [9]), ([10], [10]), ([7, 11], [7, 11]), ([], []), ([], []), ([14], [14]), ([], []), ([16], [16]), ([17], [17]), ([18], [18]), ([15, 19], [15, 19]), ([13, 20], [13, 20]), ([], []), ([22], [22]), ([23, 21], [23]), ([1, 3, 5, 12, 21, 24], [1, 3, 5, 12, 21, 24]), ([], []), ([26, 25, 24, 0, 1, 2, 3, 4, 5, 6, 7, 8, 9, 10, 11, 12, 13, 14, 15, 16, 17, 18, 19, 20, 21, 22, 23, 24, 25, 26], [25, 26])])
def withylaw11_Cut.B1 : List Nat := [0, 1, 0, 4, 0, 16, 0, 64, 0, 256, 768, 1792, 4032, 0, 0, 16384, 0, 65536, 196608, 458752, 1032192, 2088960, 0, 4194304, 16769024, 33554431, 0, 134217727]
theorem withylaw11_Cut.tab1 : rtab .any (opsOf Tryz.f9 1) = withylaw11_Cut.T1 := by kernel_rfl
theorem withylaw11_Cut.bits1 : waitsOk withylaw11_Cut.T1.2 withylaw11_Cut.B1 = true := by kernel_rfl
def withylaw11_Cut.T3 : Bool × List (List Nat × List Nat) := (true, [([], []), ([0], [0]), ([], []), ([2], [2]), ([3], [3]), ([4], [4]), ([], []), ([6], [6]), ([7], [7]), ([8], [8]), ([9], [9]), ([10], [10]), ([5, 11], [5, 11]), ([1, 0, 1, 2, 3, 4, 5, 6, 7, 8, 9, 10, 11, 12], [1]), ([13, 12, 0, 1, 2, 3, 4, 5, 6, 7, 8, 9, 10, 11, 12], [12, 13])])
def withylaw11_Cut.B3 : List Nat := [0, 1, 0, 4, 12, 28, 0, 64, 192, 448, 960, 1984, 4092, 8191, 16383]
theorem withylaw11_Cut.tab3 : rtab .any (opsOf Tryz.f9 3) = withylaw11_Cut.T3 := by kernel_rfl
theorem withylaw11_Cut.bits3 : waitsOk withylaw11_Cut.T3.2 withylaw11_Cut.B3 = true := by kernel_rfl
set_option maxHeartbeats 8000000 in
set_option maxRecDepth 100000 in
theorem withylaw11_Cut.calls (k : Nat) (a0_0 : Int) (a0_1 : Int) (a0_2 : Int) (a0_3 : ByteArray) (A0_4 : Option Addr) (c0_4 : Nat) (l0_4 : List Int) (A0_5 : Option Addr) (c0_5 : Nat) (l0_5 : List ByteArray) (r1 : Int) (r2 : Int) (r3 : Int) (r4 : ByteArray) (r5 : List Int) (r6 : List ByteArray) (w : World) (hr0_4 : Kd.C (Kd.int .i64) w A0_4 l0_4.length l0_4) (hc0_4 : l0_4.length ≤ c0_4) (hr0_5 : Kd.C Kd.string w A0_5 l0_5.length l0_5) (hc0_5 : l0_5.length ≤ c0_5) (h : withylaw11_Cut.f k a0_0 a0_1 a0_2 a0_3 l0_4 l0_5 = some (r1, r2, r3, r4, r5, r6)) :
  Calls Tryz.prog 9 #[.agg #[.int .i64 a0_0, .int .i64 a0_1, .int .i64 a0_2, .string a0_3, .slice A0_4 l0_4.length c0_4, .slice A0_5 l0_5.length c0_5]] w fun e w' => ∃ v4_ v5_ : Value, e = .returned (.agg #[.int .i64 r1, .int .i64 r2, .int .i64 r3, .string r4, v4_, v5_]) ∧ Kd.R (Kd.int .i64) 3 w' w.heap.size (fun _ => True) v4_ r5 ∧ Kd.R Kd.string 9 w' w.heap.size (fun _ => True) v5_ r6 ∧ Below w.heap.size w w' := by
 have hu25 := Tryz.underlying25
 have HR0_4 := Aside0.mk hr0_4
 have HC0_4 := Aside0.mk hc0_4
 clear hr0_4 hc0_4
 have HR0_5 := Aside0.mk hr0_5
 have HC0_5 := Aside0.mk hc0_5
 clear hr0_5 hc0_5
 have HB := as_ (Below.refl w.heap.size w)
 have H : (if 0 ≤ (mn (a0_3.size : Int) 140) then (if (mn (a0_3.size : Int) 140) ≤ (a0_3.size : Int) then ((some (([] : List Int) : List Int)).bind fun y111 => (if 0 ≤ (mn (l0_4.length : Int) 30) then (if (mn (l0_4.length : Int) 30) ≤ (l0_4.length : Int) then (if y111.length + (l0_4.take ((mn (l0_4.length : Int) 30) : Int).toNat).length < 17592186044416 then ((some (y111 ++ (l0_4.take ((mn (l0_4.length : Int) 30) : Int).toNat) : List Int)).bind fun y115 => ((withylaw05_Cut.f k l0_5).bind fun t118 => (if (l0_5.length : Int) > 0 then (if 0 < (l0_5.length : Int) then (if 0 ≤ (mn ((rdOf ByteArray.empty l0_5 0).size : Int) 140) then (if (mn ((rdOf ByteArray.empty l0_5 0).size : Int) 140) ≤ ((rdOf ByteArray.empty l0_5 0).size : Int) then (if 0 < (t118.length : Int) then (some (a0_0, a0_1, a0_2, a0_3.extract 0 ((mn (a0_3.size : Int) 140) : Int).toNat, y115, (t118.set (0 : Int).toNat ((rdOf ByteArray.empty l0_5 0).extract 0 ((mn ((rdOf ByteArray.empty l0_5 0).size : Int) 140) : Int).toNat)))) else (none)) else (none)) else (none)) else (none)) else (some (a0_0, a0_1, a0_2, a0_3.extract 0 ((mn (a0_3.size : Int) 140) : Int).toNat, y115, t118))))) else (none)) else (none)) else (none))) else (none)) else (none)) = some (r1, r2, r3, r4, r5, r6) := h
 clear h
 obtain ⟨ji2, hji2⟩ : ∃ j_ : Int, (mn (a0_3.size : Int) 140) = j_ := ⟨_, rfl⟩
 replace H : (if 0 ≤ (ji2) then (if (ji2) ≤ (a0_3.size : Int) then ((some (([] : List Int) : List Int)).bind fun y111 => (if 0 ≤ (mn (l0_4.length : Int) 30) then (if (mn (l0_4.length : Int) 30) ≤ (l0_4.length : Int) then (if y111.length + (l0_4.take ((mn (l0_4.length : Int) 30) : Int).toNat).length < 17592186044416 then ((some (y111 ++ (l0_4.take ((mn (l0_4.length : Int) 30) : Int).toNat) : List Int)).bind fun y115 => ((withylaw05_Cut.f k l0_5).bind fun t118 => (if (l0_5.length : Int) > 0 then (if 0 < (l0_5.length : Int) then (if 0 ≤ (mn ((rdOf ByteArray.empty l0_5 0).size : Int) 140) then (if (mn ((rdOf ByteArray.empty l0_5 0).size : Int) 140) ≤ ((rdOf ByteArray.empty l0_5 0).size : Int) then (if 0 < (t118.length : Int) then (some (a0_0, a0_1, a0_2, a0_3.extract 0 ((ji2) : Int).toNat, y115, (t118.set (0 : Int).toNat ((rdOf ByteArray.empty l0_5 0).extract 0 ((mn ((rdOf ByteArray.empty l0_5 0).size : Int) 140) : Int).toNat)))) else (none)) else (none)) else (none)) else (none)) else (some (a0_0, a0_1, a0_2, a0_3.extract 0 ((ji2) : Int).toNat, y115, t118))))) else (none)) else (none)) else (none))) else (none)) else (none)) = some (r1, r2, r3, r4, r5, r6) := by first | (rw [hji2] at H; exact H) | (simp only [hji2] at H ⊢; exact H)
 (try (have hji2h : ji2 ≤ 140 := by (rw [← hji2]; unfold mn; (repeat' split) <;> omega)))
 (try (have hji2g : ji2 ≤ 64 := by omega))
 (try (have hji2l : 0 ≤ ji2 := by (rw [← hji2]; unfold mn; (repeat' split) <;> omega)))
 (try (have hji2m : 0 ≤ ji2 := by omega))
 have hji2_ : (if 140 < (a0_3.size : Int) then 140 else (a0_3.size : Int)) = ji2 := hji2
 obtain ⟨c3, H⟩ := iN (c := 0 ≤ (ji2)) H
 have c3b0 := eq_true c3
 have c3b1 := decide_eq_true c3
 clear c3
 obtain ⟨c4, H⟩ := iN (c := (ji2) ≤ (a0_3.size : Int)) H
 have c4b0 := eq_true c4
 have c4b1 := decide_eq_true c4
 clear c4
 obtain ⟨js5, hjs5⟩ : ∃ j_ : ByteArray, (a0_3.extract 0 ((ji2) : Int).toNat) = j_ := ⟨_, rfl⟩
 replace H : ((some (([] : List Int) : List Int)).bind fun y111 => (if 0 ≤ (mn (l0_4.length : Int) 30) then (if (mn (l0_4.length : Int) 30) ≤ (l0_4.length : Int) then (if y111.length + (l0_4.take ((mn (l0_4.length : Int) 30) : Int).toNat).length < 17592186044416 then ((some (y111 ++ (l0_4.take ((mn (l0_4.length : Int) 30) : Int).toNat) : List Int)).bind fun y115 => ((withylaw05_Cut.f k l0_5).bind fun t118 => (if (l0_5.length : Int) > 0 then (if 0 < (l0_5.length : Int) then (if 0 ≤ (mn ((rdOf ByteArray.empty l0_5 0).size : Int) 140) then (if (mn ((rdOf ByteArray.empty l0_5 0).size : Int) 140) ≤ ((rdOf ByteArray.empty l0_5 0).size : Int) then (if 0 < (t118.length : Int) then (some (a0_0, a0_1, a0_2, js5, y115, (t118.set (0 : Int).toNat ((rdOf ByteArray.empty l0_5 0).extract 0 ((mn ((rdOf ByteArray.empty l0_5 0).size : Int) 140) : Int).toNat)))) else (none)) else (none)) else (none)) else (none)) else (some (a0_0, a0_1, a0_2, js5, y115, t118))))) else (none)) else (none)) else (none))) = some (r1, r2, r3, r4, r5, r6) := by first | (rw [hjs5] at H; exact H) | (simp only [hjs5] at H ⊢; exact H)
 obtain ⟨y111, hy111⟩ : ∃ y_ : List Int, y_ = (([] : List Int)) := ⟨_, rfl⟩
 replace H : (if 0 ≤ (mn (l0_4.length : Int) 30) then (if (mn (l0_4.length : Int) 30) ≤ (l0_4.length : Int) then (if y111.length + (l0_4.take ((mn (l0_4.length : Int) 30) : Int).toNat).length < 17592186044416 then ((some (y111 ++ (l0_4.take ((mn (l0_4.length : Int) 30) : Int).toNat) : List Int)).bind fun y115 => ((withylaw05_Cut.f k l0_5).bind fun t118 => (if (l0_5.length : Int) > 0 then (if 0 < (l0_5.length : Int) then (if 0 ≤ (mn ((rdOf ByteArray.empty l0_5 0).size : Int) 140) then (if (mn ((rdOf ByteArray.empty l0_5 0).size : Int) 140) ≤ ((rdOf ByteArray.empty l0_5 0).size : Int) then (if 0 < (t118.length : Int) then (some (a0_0, a0_1, a0_2, js5, y115, (t118.set (0 : Int).toNat ((rdOf ByteArray.empty l0_5 0).extract 0 ((mn ((rdOf ByteArray.empty l0_5 0).size : Int) 140) : Int).toNat)))) else (none)) else (none)) else (none)) else (none)) else (some (a0_0, a0_1, a0_2, js5, y115, t118))))) else (none)) else (none)) else (none)) = some (r1, r2, r3, r4, r5, r6) := by first | (rw [hy111]; with_reducible exact H) | (have H2_ := (Option.bind_some _ _).symm.trans H; rw [hy111]; with_reducible exact H2_) | (have H2_ := (Option.bind_some _ _).symm.trans H; with_reducible exact H2_) | with_reducible exact H | (rw [hy111]; exact H) | exact H
 have Ny111 := Aside0.mk hy111
 clear hy111
 obtain ⟨ji6, hji6⟩ : ∃ j_ : Int, (mn (l0_4.length : Int) 30) = j_ := ⟨_, rfl⟩
 replace H : (if 0 ≤ (ji6) then (if (ji6) ≤ (l0_4.length : Int) then (if y111.length + (l0_4.take ((ji6) : Int).toNat).length < 17592186044416 then ((some (y111 ++ (l0_4.take ((ji6) : Int).toNat) : List Int)).bind fun y115 => ((withylaw05_Cut.f k l0_5).bind fun t118 => (if (l0_5.length : Int) > 0 then (if 0 < (l0_5.length : Int) then (if 0 ≤ (mn ((rdOf ByteArray.empty l0_5 0).size : Int) 140) then (if (mn ((rdOf ByteArray.empty l0_5 0).size : Int) 140) ≤ ((rdOf ByteArray.empty l0_5 0).size : Int) then (if 0 < (t118.length : Int) then (some (a0_0, a0_1, a0_2, js5, y115, (t118.set (0 : Int).toNat ((rdOf ByteArray.empty l0_5 0).extract 0 ((mn ((rdOf ByteArray.empty l0_5 0).size : Int) 140) : Int).toNat)))) else (none)) else (none)) else (none)) else (none)) else (some (a0_0, a0_1, a0_2, js5, y115, t118))))) else (none)) else (none)) else (none)) = some (r1, r2, r3, r4, r5, r6) := by first | (rw [hji6] at H; exact H) | (simp only [hji6] at H ⊢; exact H)
 (try (have hji6h : ji6 ≤ 30 := by (rw [← hji6]; unfold mn; (repeat' split) <;> omega)))
 (try (have hji6g : ji6 ≤ 64 := by omega))
 (try (have hji6l : 0 ≤ ji6 := by (rw [← hji6]; unfold mn; (repeat' split) <;> omega)))
 (try (have hji6m : 0 ≤ ji6 := by omega))
 have hji6_ : (if 30 < (l0_4.length : Int) then 30 else (l0_4.length : Int)) = ji6 := hji6
 obtain ⟨c7, H⟩ := iN (c := 0 ≤ (ji6)) H
 have c7b0 := eq_true c7
 have c7b1 := decide_eq_true c7
 clear c7
 obtain ⟨c8, H⟩ := iN (c := (ji6) ≤ (l0_4.length : Int)) H
 have c8b0 := eq_true c8
 have c8b1 := decide_eq_true c8
 clear c8
 obtain ⟨c9, H⟩ := iN (c := y111.length + (l0_4.take ((ji6) : Int).toNat).length < 17592186044416) H
 have LMc9 := Aside0.mk c9
 clear c9
 obtain ⟨y115, hy115⟩ : ∃ y_ : List Int, y_ = (y111 ++ (l0_4.take ((ji6) : Int).toNat)) := ⟨_, rfl⟩
 replace H : ((withylaw05_Cut.f k l0_5).bind fun t118 => (if (l0_5.length : Int) > 0 then (if 0 < (l0_5.length : Int) then (if 0 ≤ (mn ((rdOf ByteArray.empty l0_5 0).size : Int) 140) then (if (mn ((rdOf ByteArray.empty l0_5 0).size : Int) 140) ≤ ((rdOf ByteArray.empty l0_5 0).size : Int) then (if 0 < (t118.length : Int) then (some (a0_0, a0_1, a0_2, js5, y115, (t118.set (0 : Int).toNat ((rdOf ByteArray.empty l0_5 0).extract 0 ((mn ((rdOf ByteArray.empty l0_5 0).size : Int) 140) : Int).toNat)))) else (none)) else (none)) else (none)) else (none)) else (some (a0_0, a0_1, a0_2, js5, y115, t118)))) = some (r1, r2, r3, r4, r5, r6) := by first | (rw [hy115]; with_reducible exact H) | (have H2_ := (Option.bind_some _ _).symm.trans H; rw [hy115]; with_reducible exact H2_) | (have H2_ := (Option.bind_some _ _).symm.trans H; with_reducible exact H2_) | with_reducible exact H | (rw [hy115]; exact H) | exact H
 have Ny115 := Aside0.mk hy115
 clear hy115
 obtain ⟨t118, A10, H⟩ := bN H
 (try dsimp only at H)
 by_cases c11 : (l0_5.length : Int) > 0
 rotate_left
 ·rw [if_neg c11] at H
  have c11b0 : decide (0 < (l0_5.length : Int)) = false := decide_eq_false c11
  have c11b1 : decide (0 < l0_5.length) = false := decide_eq_false (by omega)
  clear c11
  simp only [Option.some.injEq, Prod.mk.injEq] at H
  obtain ⟨rfl, rfl, rfl, rfl, rfl, rfl⟩ := H
  go_enter Tryz.func9, Tryz.ntmps9
  try go_wp2_with (first | ((with_reducible refine gate_dst (N := 1) rfl ?_); refine box_event (by rfl) (N := 1) (by rfl) (cs := #[.int .i64 a0_0, .int .i64 a0_1, .int .i64 a0_2, .string a0_3, .slice A0_4 l0_4.length c0_4, .slice A0_5 l0_5.length c0_5]) (t := 25) gS ?_; intro gb109 hg w49 hbox hb; have BK109 := as_ (hbox); have GW109 := gw hg bA; have GE109 := gw hg bA; replace HB := as_ (below_step bA hb); clear hb hbox hg) | ((with_reducible refine gate_dst (N := 2) rfl ?_); refine box_event ?hg (N := 2) ?hd (cs := #[.int .i64 0, .int .i64 0, .int .i64 0, .string (⟨#[]⟩ : ByteArray), .slice none 0 0, .slice none 0 0]) (t := 25) ?hr ?_; (case hd => rfl); (case hg => rfl); (case hr => first | (go_simp; done) | (go_simp; rfl)); intro gb110 hg w50 hbox hb; have BK110 := as_ (hbox); have GW110 := gw hg bA; have GE110 := gw hg bA; have NB109_110 := nl BK109 hg; have NB110_109 := ng BK109 hg; replace BK109 := bb BK109 hb; replace HB := as_ (below_step bA hb); clear hb hbox hg))
  replace BK109 := as_ (blk_drew BK109.out)
  replace BK110 := as_ (blk_drew BK110.out)
  replace HB := as_ (below_drew1 HB.out)
  obtain ⟨i052, hi052, _, hsz52, _⟩ := info_parts info3
  obtain ⟨hcut52, hA52, hC52⟩ := print_take_of (P := Tryz.prog) (Value.int .i64) 0 22 3 .i64 Tryz.underlying22 hi052 hsz52 A0_4 c0_4 l0_4 (ji6) (of_decide_eq_true aM) (of_decide_eq_true aM) HC0_4.out
  have HR114 := as_ (Kd.C_of_reads (h1 := fun _ => rfl) (hA52 _ (Kd.reads_of_C HR0_4.out)))
  have HC114 := Aside0.mk hC52
  clear hA52 hC52 hi052 hsz52
  refine start_ (n := 28) (S := fun w' => w'.cell? ⟨gb109, 0, none⟩ = some (.int .i64 a0_0) ∧ w'.cell? ⟨gb109, 1, none⟩ = some (.int .i64 a0_1) ∧ w'.cell? ⟨gb109, 2, none⟩ = some (.int .i64 a0_2) ∧ w'.cell? ⟨gb109, 3, none⟩ = some (.string a0_3) ∧ w'.cell? ⟨gb109, 4, none⟩ = some (.slice A0_4 l0_4.length c0_4) ∧ w'.cell? ⟨gb109, 5, none⟩ = some (.slice A0_5 l0_5.length c0_5)) (ds := []) #[ff, ff, ff, ff, ff, ff, ff, ff, ff, ff, ff, ff, ff, ff, ff, ff, ff, ff, ff, ff, ff, ff, ff, ff, ff, ff, ff, ff] (by kernel_rfl) rfl rfl ⟨(blk_cell BK109.out 0).trans rfl, (blk_cell BK109.out 1).trans rfl, (blk_cell BK109.out 2).trans rfl, (blk_cell BK109.out 3).trans rfl, (blk_cell BK109.out 4).trans rfl, (blk_cell BK109.out 5).trans rfl⟩ (fun hHeld => ?_); refine with_tabW withylaw11_Cut.tab1 withylaw11_Cut.bits1 (fun HT_ HW_ => ?_)
  generalize w50.drew = w51 at BK109 BK110 HB HR114 hHeld ⊢
  refine pu_ 0 (some 4) (mr [1, 27]) rfl rfl (h := ?_)
  refine pu_ 2 (some 6) (mr [1, 1, 1, 25]) rfl rfl (h := ?_)
  refine pu_ 4 (some 8) (mr [1, 1, 1, 1, 1, 23]) rfl rfl (h := ?_)
  refine pu_ 6 (some 10) (mr [1, 1, 1, 1, 1, 1, 1, 21]) rfl rfl (h := ?_)
  refine pu_ 8 (some 12) (mr [1, 1, 1, 1, 1, 1, 1, 1, 1, 19]) rfl rfl (h := ?_)
  refine pu_ 14 (some 18) (mr [1, 1, 1, 1, 1, 1, 1, 1, 1, 5, 1, 13]) rfl rfl (h := ?_)
  refine pu_ 16 (some 20) (mr [1, 1, 1, 1, 1, 1, 1, 1, 1, 5, 1, 1, 1, 11]) rfl rfl (h := ?_)
  refine pu_ 22 (some 26) (mr [1, 1, 1, 1, 1, 1, 1, 1, 1, 5, 1, 1, 1, 5, 1, 5]) rfl rfl (h := ?_)
  refine take_ (i := 1) (N := some 5) (v := ?_) (a' := ?_) (mr [3, 1, 1, 1, 1, 1, 1, 5, 1, 1, 1, 5, 1, 5]) rfl rfl (take_ofW HT_.out HW_.out (by kernel_rfl)) (fun _ _ _ h => h) (Or.inl ⟨by rfl, ?_⟩) hHeld ?_ ?_
  rotate_left
  ·rintro w' ⟨s0, s1, s2, s3, s4, s5⟩
   go_simp
   with_reducible rfl
  rotate_left
  ·exact aP
  refine take_ (i := 3) (N := some 7) (v := ?_) (a' := ?_) (mr [5, 1, 1, 1, 1, 5, 1, 1, 1, 5, 1, 5]) rfl rfl (take_ofW HT_.out HW_.out (by kernel_rfl)) (fun _ _ _ h => h) (Or.inl ⟨by rfl, ?_⟩) hHeld ?_ ?_
  rotate_left
  ·rintro w' ⟨s0, s1, s2, s3, s4, s5⟩
   go_simp
   with_reducible rfl
  rotate_left
  ·exact aP
  refine take_ (i := 5) (N := some 9) (v := ?_) (a' := ?_) (mr [7, 1, 1, 5, 1, 1, 1, 5, 1, 5]) rfl rfl (take_ofW HT_.out HW_.out (by kernel_rfl)) (fun _ _ _ h => h) (Or.inl ⟨by rfl, ?_⟩) hHeld ?_ ?_
  rotate_left
  ·rintro w' ⟨s0, s1, s2, s3, s4, s5⟩
   go_simp
   with_reducible rfl
  rotate_left
  ·exact aP
  refine take_ (i := 7) (N := some 11) (v := ?_) (a' := ?_) (mr [9, 5, 1, 1, 1, 5, 1, 5]) rfl rfl (take_ofW HT_.out HW_.out (by kernel_rfl)) (fun _ _ _ h => h) (Or.inl ⟨by rfl, ?_⟩) hHeld ?_ ?_
  rotate_left
  ·rintro w' ⟨s0, s1, s2, s3, s4, s5⟩
   go_simp
   with_reducible rfl
  rotate_left
  ·exact aP
  refine take_ (i := 9) (N := some 13) (v := ?_) (a' := ?_) (mr [10, 4, 1, 1, 1, 5, 1, 5]) rfl rfl (take_ofW HT_.out HW_.out (by kernel_rfl)) (fun _ _ _ h => h) (Or.inl ⟨by rfl, ?_⟩) hHeld ?_ ?_
  rotate_left
  ·rintro w' ⟨s0, s1, s2, s3, s4, s5⟩
   go_simp
   with_reducible rfl
  rotate_left
  ·exact aP
  refine pu_ 10 (some 14) (mr [11, 3, 1, 1, 1, 5, 1, 5]) rfl rfl (h := ?_)
  refine pu_ 11 (some 15) (mr [12, 2, 1, 1, 1, 5, 1, 5]) rfl rfl (h := ?_)
  refine pu_ 12 (some 16) (mr [13, 1, 1, 1, 1, 5, 1, 5]) rfl rfl (h := ?_)
  refine take_ (i := 15) (N := some 19) (v := ?_) (a' := ?_) (mr [13, 1, 3, 5, 1, 5]) rfl rfl (take_ofW HT_.out HW_.out (by kernel_rfl)) (fun _ _ _ h => h) (Or.inl ⟨by rfl, ?_⟩) hHeld ?_ ?_
  rotate_left
  ·rintro w' ⟨s0, s1, s2, s3, s4, s5⟩
   go_simp
   with_reducible rfl
  rotate_left
  ·exact aP
  refine take_ (i := 17) (N := some 21) (v := ?_) (a' := ?_) (mr [13, 1, 4, 4, 1, 5]) rfl rfl (take_ofW HT_.out HW_.out (by kernel_rfl)) (fun _ _ _ h => h) (Or.inl ⟨by rfl, ?_⟩) hHeld ?_ ?_
  rotate_left
  ·rintro w' ⟨s0, s1, s2, s3, s4, s5⟩
   go_simp
   with_reducible rfl
  rotate_left
  ·exact aP
  refine pu_ 18 (some 22) (mr [13, 1, 5, 3, 1, 5]) rfl rfl (h := ?_)
  refine pu_ 19 (some 23) (mr [13, 1, 6, 2, 1, 5]) rfl rfl (h := ?_)
  refine pu_ 20 (some 24) (mr [13, 1, 7, 1, 1, 5]) rfl rfl (h := ?_)
  refine take_ (i := 23) (N := some 27) (v := ?_) (a' := ?_) (mr [13, 1, 7, 1, 2, 4]) rfl rfl (take_ofW HT_.out HW_.out (by kernel_rfl)) (fun _ _ _ h => h) (Or.inl ⟨by rfl, ?_⟩) hHeld ?_ ?_
  rotate_left
  ·rintro w' ⟨s0, s1, s2, s3, s4, s5⟩
   go_simp
   with_reducible rfl
  rotate_left
  ·exact aP
  refine join_ (σ := Value × Value × Value × Nat) 1 (mr [27, 1]) (fun s_ => [(17, s_.1), (25, s_.2.1), (28, s_.2.2.1), (3, .pointer (some ⟨s_.2.2.2, 0, none⟩)), (29, .agg #[.int .i64 a0_0, .int .i64 a0_1, .int .i64 a0_2, .string js5, s_.2.1, s_.2.2.1])]) (fun s_ w' => (w'.cell? ⟨gb109, 0, none⟩ = some (.int .i64 a0_0) ∧ w'.cell? ⟨gb109, 1, none⟩ = some (.int .i64 a0_1) ∧ w'.cell? ⟨gb109, 2, none⟩ = some (.int .i64 a0_2) ∧ w'.cell? ⟨gb109, 3, none⟩ = some (.string a0_3) ∧ w'.cell? ⟨gb109, 4, none⟩ = some (.slice A0_4 l0_4.length c0_4) ∧ w'.cell? ⟨gb109, 5, none⟩ = some (.slice A0_5 l0_5.length c0_5)) ∧ (Kd.R (Kd.int .i64) 3 w' w.heap.size (fun _ => True) s_.2.1 y115) ∧ (Kd.R Kd.string 9 w' w.heap.size (fun _ => True) s_.2.2.1 t118) ∧ (w'.heap[gb109]? = some (.cells #[.int .i64 a0_0, .int .i64 a0_1, .int .i64 a0_2, .string a0_3, .slice A0_4 l0_4.length c0_4, .slice A0_5 l0_5.length c0_5] 25 (0, 0))) ∧ (w'.heap[gb110]? = some (.cells #[.int .i64 0, .int .i64 0, .int .i64 0, .string (⟨#[]⟩ : ByteArray), .slice none 0 0, .slice none 0 0] 25 (0, 0))) ∧ (w'.heap[s_.2.2.2]? = some (.cells #[.int .i64 0, .int .i64 0, .int .i64 0, .string (⟨#[]⟩ : ByteArray), .slice none 0 0, .slice none 0 0] 25 (0, 0))) ∧ (w.heap.size ≤ s_.2.2.2) ∧ (w.heap.size ≤ s_.2.2.2) ∧ (gb109 ≠ s_.2.2.2) ∧ (s_.2.2.2 ≠ gb109) ∧ (gb110 ≠ s_.2.2.2) ∧ (s_.2.2.2 ≠ gb110) ∧ (Below w.heap.size w w')) ?_ ?_
  rotate_left
  ·intro hCont
   refine two_ (i := 13) (j := 26) (Ni := some 17) (Nj := some 3) (mr [21, 1, 2, 4]) (mr [13, 1, 7, 1, 2, 2, 1, 1]) rfl rfl rfl rfl (two_of HT_.out (by kernel_rfl)) (by decide) (by decide) (fun K hK => ?_) (fun K hK => ?_)
   ·skip
    refine Kd.R_lit_step (Kd.int .i64) _ 3 ?hg (N := 17) ?hd (xs := ([] : List Int)) (inner := []) (ok := fun _ => True) (okp := fun _ => True) ?hr ?hp (fun _ hk => hk) trivial (Below.refl _ _) (Nat.le_refl _) (by simp) ?_; (case hd => rfl); (case hg => rfl); (case hr => first | (go_simp; done) | (go_simp; rfl)); (case hp => exact (Reps.none _ _))
    intro v112 w53 ho54 hb hg_ hnew_
    clear hg_ hnew_
    (first | rw [← Ny111.out] at ho54 | (simp only [Int.reduceToNat] at ho54; rw [← Ny111.out] at ho54))
    have HO113 := as_ (Kd.R_lower ho54 (below_size bA))
    replace BK109 := bb BK109 hb
    replace BK110 := as_ (blk_below (g := gb110) (o := .cells #[.int .i64 0, .int .i64 0, .int .i64 0, .string (⟨#[]⟩ : ByteArray), .slice none 0 0, .slice none 0 0] 25 (0, 0)) (bk BK110) hb)
    replace HB := as_ (below_step bA hb)
    clear hb ho54
    refine hK.out _ _ ⟨(blk_cell BK109.out 0).trans rfl, (blk_cell BK109.out 1).trans rfl, (blk_cell BK109.out 2).trans rfl, (blk_cell BK109.out 3).trans rfl, (blk_cell BK109.out 4).trans rfl, (blk_cell BK109.out 5).trans rfl⟩ (fun hHeld => ?_)
    clear hK K
    refine nm_ (some 17) (h := ?_)
    refine two_ (i := 21) (j := 26) (Ni := some 25) (Nj := some 3) (mr [24, 4]) (mr [21, 1, 2, 2, 1, 1]) rfl rfl rfl rfl (two_of HT_.out (by kernel_rfl)) (by decide) (by decide) (fun K hK => ?_) (fun K hK => ?_)
    ·skip
     refine Kd.R_append_rows_step (Kd.int .i64) (w0 := w) w.heap.size (by rfl) (.tmp 17) (.tmp 24) 22 3 (.int .i64 0) 8 rfl Tryz.underlying22 info3 rfl (by decide) (by omega) v112 y111 (l0_4.take ((ji6) : Int).toNat) _ _ _ (fun _ => True) (fun _ => False) rfl rfl ?aO ?aR (fun _ _ h => h) (fun _ h => h.elim) ?aF ?aB ?aS ?aL ?_
     (case aR => first | ((have hz_ := Kd.C_below HR114.out HB.out); (rw [show (l0_4.take ((ji6) : Int).toNat).length = (ji6).toNat from (by rw [List.length_take]; have h_ : ((ji6) : Int) ≤ (l0_4.length : Int) := of_decide_eq_true aM; omega)] at hz_); (repeat (first | exact hz_ | (with_reducible refine Kd.C_alloc ?_ _) | (with_reducible refine Kd.C_drewN ?_ _) | (with_reducible refine Kd.C_drew ?_))); done) | (rw [← show (l0_4.take ((ji6) : Int).toNat).length = (ji6).toNat from (by rw [List.length_take]; have h_ : ((ji6) : Int) ≤ (l0_4.length : Int) := of_decide_eq_true aM; omega)]; repeat (first | exact (Kd.C_below HR114.out HB.out) | (with_reducible refine Kd.C_alloc ?_ _) | (with_reducible refine Kd.C_drewN ?_ _) | (with_reducible refine Kd.C_drew ?_))) | (repeat (first | exact (Kd.C_below HR114.out HB.out) | (with_reducible refine Kd.C_alloc ?_ _) | (with_reducible refine Kd.C_drewN ?_ _) | (with_reducible refine Kd.C_drew ?_))))
     (case aB => exact bA)
     (case aF => exact (fun _ _ => trivial))
     (case aO => exact (rD HO113))
     (case aS => exact (below_size bA))
     (case aL => have := LMc9.out; have hlx_ := (show (l0_4.take ((ji6) : Int).toNat).length = (ji6).toNat from (by rw [List.length_take]; have h_ : ((ji6) : Int) ≤ (l0_4.length : Int) := of_decide_eq_true aM; omega)); omega)
     intro v116 w55 ho hb hg hat
     rw [← Ny115.out] at ho
     have HO117 := as_ (ho)
     replace BK109 := as_ (blk_grown (g := gb109) (o := .cells #[.int .i64 a0_0, .int .i64 a0_1, .int .i64 a0_2, .string a0_3, .slice A0_4 l0_4.length c0_4, .slice A0_5 l0_5.length c0_5] 25 (0, 0)) (bk BK109) hg (Kd.R_ne HO113.out BK109.out (by decide)))
     replace BK110 := as_ (blk_grown (g := gb110) (o := .cells #[.int .i64 0, .int .i64 0, .int .i64 0, .string (⟨#[]⟩ : ByteArray), .slice none 0 0, .slice none 0 0] 25 (0, 0)) (bk BK110) hg (Kd.R_ne HO113.out BK110.out (by decide)))
     replace HB := as_ (hb)
     clear HO113
     clear ho hb hg hat
     refine hK.out _ _ ⟨(blk_cell BK109.out 0).trans rfl, (blk_cell BK109.out 1).trans rfl, (blk_cell BK109.out 2).trans rfl, (blk_cell BK109.out 3).trans rfl, (blk_cell BK109.out 4).trans rfl, (blk_cell BK109.out 5).trans rfl⟩ (fun hHeld => ?_)
     clear hK K
     refine nm_ (some 25) (h := ?_)
     refine two_ (i := 24) (j := 26) (Ni := some 28) (Nj := some 3) (mr [25, 3]) (mr [24, 2, 1, 1]) rfl rfl rfl rfl (two_of HT_.out (by kernel_rfl)) (by decide) (by decide) (fun K hK => ?_) (fun K hK => ?_)
     ·skip
      refine goes_ Tryz.func31 (by kernel_rfl) rfl #[.slice A0_5 l0_5.length c0_5] (by rfl) rfl rfl aO ?_
      with_reducible refine (withylaw05_Cut.calls k _ _ l0_5 t118 _ ?side1 ?side2 A10.out).mono ?_
      (case side1 => repeat (first | exact (Kd.C_below HR0_5.out HB.out) | (with_reducible refine Kd.C_alloc ?_ _) | (with_reducible refine Kd.C_drewN ?_ _) | (with_reducible refine Kd.C_drew ?_)))
      (case side2 => exact HC0_5.out)
      rintro e w56 ⟨v119, rfl, ho0, hb⟩
      refine ⟨_, rfl, ?_⟩
      have HO120 := as_ (Kd.R_lower ho0 (below_size bA))
      replace HO117 := as_ (Kd.R_below (rD HO117) hb)
      replace BK109 := bb BK109 hb
      replace BK110 := as_ (blk_below (g := gb110) (o := .cells #[.int .i64 0, .int .i64 0, .int .i64 0, .string (⟨#[]⟩ : ByteArray), .slice none 0 0, .slice none 0 0] 25 (0, 0)) (bk BK110) hb)
      replace HB := as_ (below_step bA hb)
      (try clear hb)
      (try clear hb2)
      (try clear hk)
      (try clear hi)
      (try clear ho0)
      obtain ⟨Ao57, co57, eo57⟩ := Kd.R_slice HO120.out
      (first | subst eo57 | (injection eo57 with f1_ f2_ f3_; have f4_ := f1_.symm; have f5_ := f3_.symm; clear f1_ f2_ f3_; subst f4_; subst f5_))
      obtain ⟨Ao58, co58, eo58⟩ := Kd.R_slice HO117.out
      (first | subst eo58 | (injection eo58 with f1_ f2_ f3_; have f4_ := f1_.symm; have f5_ := f3_.symm; clear f1_ f2_ f3_; subst f4_; subst f5_))
      refine hK.out _ _ ⟨(blk_cell BK109.out 0).trans rfl, (blk_cell BK109.out 1).trans rfl, (blk_cell BK109.out 2).trans rfl, (blk_cell BK109.out 3).trans rfl, (blk_cell BK109.out 4).trans rfl, (blk_cell BK109.out 5).trans rfl⟩ (fun hHeld => ?_)
      clear hK K
      refine nm_ (some 28) (h := ?_)
      refine pu_ 25 (some 29) (mr [26, 2]) rfl rfl (h := ?_)
      refine one_ (i := 26) (N := some 3) (mr [27, 1]) rfl rfl (one_of HT_.out (by kernel_rfl)) (by decide) (fun K hK => ?_)
      refine box_step ?hg (N := 3) ?hd (cs := #[.int .i64 0, .int .i64 0, .int .i64 0, .string (⟨#[]⟩ : ByteArray), .slice none 0 0, .slice none 0 0]) (t := 25) ?hr ?_; (case hd => rfl); (case hg => rfl); (case hr => first | (go_simp; done) | (go_simp; rfl))
      intro gb121 hg w59 hbox hb
      have BK121 := as_ (hbox)
      have GW121 := gw hg bA
      have GE121 := gw hg bA
      have NB109_121 := nl BK109 hg
      have NB121_109 := ng BK109 hg
      have NB110_121 := as_ ((by rw [hg]; exact Nat.ne_of_lt (blk_lt (g := gb110) (o := .cells #[.int .i64 0, .int .i64 0, .int .i64 0, .string (⟨#[]⟩ : ByteArray), .slice none 0 0, .slice none 0 0] 25 (0, 0)) (bk BK110)) : gb110 ≠ gb121))
      have NB121_110 := as_ ((by rw [hg]; exact Nat.ne_of_gt (blk_lt (g := gb110) (o := .cells #[.int .i64 0, .int .i64 0, .int .i64 0, .string (⟨#[]⟩ : ByteArray), .slice none 0 0, .slice none 0 0] 25 (0, 0)) (bk BK110)) : gb121 ≠ gb110))
      replace HO117 := as_ (Kd.R_below (rD HO117) hb)
      replace HO120 := as_ (Kd.R_below (rD HO120) hb)
      replace BK109 := bb BK109 hb
      replace BK110 := as_ (blk_below (g := gb110) (o := .cells #[.int .i64 0, .int .i64 0, .int .i64 0, .string (⟨#[]⟩ : ByteArray), .slice none 0 0, .slice none 0 0] 25 (0, 0)) (bk BK110) hb)
      replace HB := as_ (below_step bA hb)
      clear hb hbox hg
      refine hK.out _ _ ⟨(blk_cell BK109.out 0).trans rfl, (blk_cell BK109.out 1).trans rfl, (blk_cell BK109.out 2).trans rfl, (blk_cell BK109.out 3).trans rfl, (blk_cell BK109.out 4).trans rfl, (blk_cell BK109.out 5).trans rfl⟩ (fun hHeld => ?_)
      clear hK K
      refine nm_ (some 3) (h := ?_)
      exact norm_ (by simp only [putAll, Act.put, List.setIfInBounds_toArray, List.set_cons_zero, List.set_cons_succ]) (hCont (v112, .slice Ao58 y115.length co58, .slice Ao57 t118.length co57, gb121) _ ⟨hHeld, (rD HO117), (rD HO120), (bk BK109), (bk BK110), (bk BK121), GW121.out, GE121.out, NB109_121.out, NB121_109.out, NB110_121.out, NB121_110.out, bA⟩)
     ·skip
      refine box_step ?hg (N := 3) ?hd (cs := #[.int .i64 0, .int .i64 0, .int .i64 0, .string (⟨#[]⟩ : ByteArray), .slice none 0 0, .slice none 0 0]) (t := 25) ?hr ?_; (case hd => rfl); (case hg => rfl); (case hr => first | (go_simp; done) | (go_simp; rfl))
      intro gb121 hg w56 hbox hb
      have BK121 := as_ (hbox)
      have GW121 := gw hg bA
      have GE121 := gw hg bA
      have NB109_121 := nl BK109 hg
      have NB121_109 := ng BK109 hg
      have NB110_121 := as_ ((by rw [hg]; exact Nat.ne_of_lt (blk_lt (g := gb110) (o := .cells #[.int .i64 0, .int .i64 0, .int .i64 0, .string (⟨#[]⟩ : ByteArray), .slice none 0 0, .slice none 0 0] 25 (0, 0)) (bk BK110)) : gb110 ≠ gb121))
      have NB121_110 := as_ ((by rw [hg]; exact Nat.ne_of_gt (blk_lt (g := gb110) (o := .cells #[.int .i64 0, .int .i64 0, .int .i64 0, .string (⟨#[]⟩ : ByteArray), .slice none 0 0, .slice none 0 0] 25 (0, 0)) (bk BK110)) : gb121 ≠ gb110))
      replace HO117 := as_ (Kd.R_below (rD HO117) hb)
      replace BK109 := bb BK109 hb
      replace BK110 := as_ (blk_below (g := gb110) (o := .cells #[.int .i64 0, .int .i64 0, .int .i64 0, .string (⟨#[]⟩ : ByteArray), .slice none 0 0, .slice none 0 0] 25 (0, 0)) (bk BK110) hb)
      replace HB := as_ (below_step bA hb)
      clear hb hbox hg
      refine hK.out _ _ ⟨(blk_cell BK109.out 0).trans rfl, (blk_cell BK109.out 1).trans rfl, (blk_cell BK109.out 2).trans rfl, (blk_cell BK109.out 3).trans rfl, (blk_cell BK109.out 4).trans rfl, (blk_cell BK109.out 5).trans rfl⟩ (fun hHeld => ?_)
      clear hK K
      refine nm_ (some 3) (h := ?_)
      refine one_ (i := 24) (N := some 28) (mr [25, 1, 1, 1]) rfl rfl (one_of HT_.out (by kernel_rfl)) (by decide) (fun K hK => ?_)
      refine goes_ Tryz.func31 (by kernel_rfl) rfl #[.slice A0_5 l0_5.length c0_5] (by rfl) rfl rfl aO ?_
      with_reducible refine (withylaw05_Cut.calls k _ _ l0_5 t118 _ ?side1 ?side2 A10.out).mono ?_
      (case side1 => repeat (first | exact (Kd.C_below HR0_5.out HB.out) | (with_reducible refine Kd.C_alloc ?_ _) | (with_reducible refine Kd.C_drewN ?_ _) | (with_reducible refine Kd.C_drew ?_)))
      (case side2 => exact HC0_5.out)
      rintro e w57 ⟨v119, rfl, ho0, hb⟩
      refine ⟨_, rfl, ?_⟩
      have HO120 := as_ (Kd.R_lower ho0 (below_size bA))
      replace HO117 := as_ (Kd.R_below (rD HO117) hb)
      replace BK109 := bb BK109 hb
      replace BK110 := as_ (blk_below (g := gb110) (o := .cells #[.int .i64 0, .int .i64 0, .int .i64 0, .string (⟨#[]⟩ : ByteArray), .slice none 0 0, .slice none 0 0] 25 (0, 0)) (bk BK110) hb)
      replace BK121 := as_ (blk_below (g := gb121) (o := .cells #[.int .i64 0, .int .i64 0, .int .i64 0, .string (⟨#[]⟩ : ByteArray), .slice none 0 0, .slice none 0 0] 25 (0, 0)) (bk BK121) hb)
      replace HB := as_ (below_step bA hb)
      (try clear hb)
      (try clear hb2)
      (try clear hk)
      (try clear hi)
      (try clear ho0)
      obtain ⟨Ao58, co58, eo58⟩ := Kd.R_slice HO120.out
      (first | subst eo58 | (injection eo58 with f1_ f2_ f3_; have f4_ := f1_.symm; have f5_ := f3_.symm; clear f1_ f2_ f3_; subst f4_; subst f5_))
      obtain ⟨Ao59, co59, eo59⟩ := Kd.R_slice HO117.out
      (first | subst eo59 | (injection eo59 with f1_ f2_ f3_; have f4_ := f1_.symm; have f5_ := f3_.symm; clear f1_ f2_ f3_; subst f4_; subst f5_))
      refine hK.out _ _ ⟨(blk_cell BK109.out 0).trans rfl, (blk_cell BK109.out 1).trans rfl, (blk_cell BK109.out 2).trans rfl, (blk_cell BK109.out 3).trans rfl, (blk_cell BK109.out 4).trans rfl, (blk_cell BK109.out 5).trans rfl⟩ (fun hHeld => ?_)
      clear hK K
      refine nm_ (some 28) (h := ?_)
      refine pu_ 25 (some 29) (mr [27, 1]) rfl rfl (h := ?_)
      exact norm_ (by simp only [putAll, Act.put, List.setIfInBounds_toArray, List.set_cons_zero, List.set_cons_succ]) (hCont (v112, .slice Ao59 y115.length co59, .slice Ao58 t118.length co58, gb121) _ ⟨hHeld, (rD HO117), (rD HO120), (bk BK109), (bk BK110), (bk BK121), GW121.out, GE121.out, NB109_121.out, NB121_109.out, NB110_121.out, NB121_110.out, bA⟩)
    ·skip
     refine box_step ?hg (N := 3) ?hd (cs := #[.int .i64 0, .int .i64 0, .int .i64 0, .string (⟨#[]⟩ : ByteArray), .slice none 0 0, .slice none 0 0]) (t := 25) ?hr ?_; (case hd => rfl); (case hg => rfl); (case hr => first | (go_simp; done) | (go_simp; rfl))
     intro gb121 hg w55 hbox hb
     have BK121 := as_ (hbox)
     have GW121 := gw hg bA
     have GE121 := gw hg bA
     have NB109_121 := nl BK109 hg
     have NB121_109 := ng BK109 hg
     have NB110_121 := as_ ((by rw [hg]; exact Nat.ne_of_lt (blk_lt (g := gb110) (o := .cells #[.int .i64 0, .int .i64 0, .int .i64 0, .string (⟨#[]⟩ : ByteArray), .slice none 0 0, .slice none 0 0] 25 (0, 0)) (bk BK110)) : gb110 ≠ gb121))
     have NB121_110 := as_ ((by rw [hg]; exact Nat.ne_of_gt (blk_lt (g := gb110) (o := .cells #[.int .i64 0, .int .i64 0, .int .i64 0, .string (⟨#[]⟩ : ByteArray), .slice none 0 0, .slice none 0 0] 25 (0, 0)) (bk BK110)) : gb121 ≠ gb110))
     replace HO113 := as_ (Kd.R_below (rD HO113) hb)
     replace BK109 := bb BK109 hb
     replace BK110 := as_ (blk_below (g := gb110) (o := .cells #[.int .i64 0, .int .i64 0, .int .i64 0, .string (⟨#[]⟩ : ByteArray), .slice none 0 0, .slice none 0 0] 25 (0, 0)) (bk BK110) hb)
     replace HB := as_ (below_step bA hb)
     clear hb hbox hg
     refine hK.out _ _ ⟨(blk_cell BK109.out 0).trans rfl, (blk_cell BK109.out 1).trans rfl, (blk_cell BK109.out 2).trans rfl, (blk_cell BK109.out 3).trans rfl, (blk_cell BK109.out 4).trans rfl, (blk_cell BK109.out 5).trans rfl⟩ (fun hHeld => ?_)
     clear hK K
     refine nm_ (some 3) (h := ?_)
     refine one_ (i := 21) (N := some 25) (mr [24, 2, 1, 1]) rfl rfl (one_of HT_.out (by kernel_rfl)) (by decide) (fun K hK => ?_)
     refine Kd.R_append_rows_step (Kd.int .i64) (w0 := w) w.heap.size (by rfl) (.tmp 17) (.tmp 24) 22 3 (.int .i64 0) 8 rfl Tryz.underlying22 info3 rfl (by decide) (by omega) v112 y111 (l0_4.take ((ji6) : Int).toNat) _ _ _ (fun _ => True) (fun _ => False) rfl rfl ?aO ?aR (fun _ _ h => h) (fun _ h => h.elim) ?aF ?aB ?aS ?aL ?_
     (case aR => first | ((have hz_ := Kd.C_below HR114.out HB.out); (rw [show (l0_4.take ((ji6) : Int).toNat).length = (ji6).toNat from (by rw [List.length_take]; have h_ : ((ji6) : Int) ≤ (l0_4.length : Int) := of_decide_eq_true aM; omega)] at hz_); (repeat (first | exact hz_ | (with_reducible refine Kd.C_alloc ?_ _) | (with_reducible refine Kd.C_drewN ?_ _) | (with_reducible refine Kd.C_drew ?_))); done) | (rw [← show (l0_4.take ((ji6) : Int).toNat).length = (ji6).toNat from (by rw [List.length_take]; have h_ : ((ji6) : Int) ≤ (l0_4.length : Int) := of_decide_eq_true aM; omega)]; repeat (first | exact (Kd.C_below HR114.out HB.out) | (with_reducible refine Kd.C_alloc ?_ _) | (with_reducible refine Kd.C_drewN ?_ _) | (with_reducible refine Kd.C_drew ?_))) | (repeat (first | exact (Kd.C_below HR114.out HB.out) | (with_reducible refine Kd.C_alloc ?_ _) | (with_reducible refine Kd.C_drewN ?_ _) | (with_reducible refine Kd.C_drew ?_))))
     (case aB => exact bA)
     (case aF => exact (fun _ _ => trivial))
     (case aO => exact (rD HO113))
     (case aS => exact (below_size bA))
     (case aL => have := LMc9.out; have hlx_ := (show (l0_4.take ((ji6) : Int).toNat).length = (ji6).toNat from (by rw [List.length_take]; have h_ : ((ji6) : Int) ≤ (l0_4.length : Int) := of_decide_eq_true aM; omega)); omega)
     intro v116 w56 ho hb hg hat
     rw [← Ny115.out] at ho
     have HO117 := as_ (ho)
     replace BK109 := as_ (blk_grown (g := gb109) (o := .cells #[.int .i64 a0_0, .int .i64 a0_1, .int .i64 a0_2, .string a0_3, .slice A0_4 l0_4.length c0_4, .slice A0_5 l0_5.length c0_5] 25 (0, 0)) (bk BK109) hg (Kd.R_ne HO113.out BK109.out (by decide)))
     replace BK110 := as_ (blk_grown (g := gb110) (o := .cells #[.int .i64 0, .int .i64 0, .int .i64 0, .string (⟨#[]⟩ : ByteArray), .slice none 0 0, .slice none 0 0] 25 (0, 0)) (bk BK110) hg (Kd.R_ne HO113.out BK110.out (by decide)))
     replace BK121 := as_ (blk_grown (g := gb121) (o := .cells #[.int .i64 0, .int .i64 0, .int .i64 0, .string (⟨#[]⟩ : ByteArray), .slice none 0 0, .slice none 0 0] 25 (0, 0)) (bk BK121) hg (Kd.R_ne HO113.out BK121.out (by decide)))
     replace HB := as_ (hb)
     clear HO113
     clear ho hb hg hat
     refine hK.out _ _ ⟨(blk_cell BK109.out 0).trans rfl, (blk_cell BK109.out 1).trans rfl, (blk_cell BK109.out 2).trans rfl, (blk_cell BK109.out 3).trans rfl, (blk_cell BK109.out 4).trans rfl, (blk_cell BK109.out 5).trans rfl⟩ (fun hHeld => ?_)
     clear hK K
     refine nm_ (some 25) (h := ?_)
     refine one_ (i := 24) (N := some 28) (mr [25, 1, 1, 1]) rfl rfl (one_of HT_.out (by kernel_rfl)) (by decide) (fun K hK => ?_)
     refine goes_ Tryz.func31 (by kernel_rfl) rfl #[.slice A0_5 l0_5.length c0_5] (by rfl) rfl rfl aO ?_
     with_reducible refine (withylaw05_Cut.calls k _ _ l0_5 t118 _ ?side1 ?side2 A10.out).mono ?_
     (case side1 => repeat (first | exact (Kd.C_below HR0_5.out HB.out) | (with_reducible refine Kd.C_alloc ?_ _) | (with_reducible refine Kd.C_drewN ?_ _) | (with_reducible refine Kd.C_drew ?_)))
     (case side2 => exact HC0_5.out)
     rintro e w57 ⟨v119, rfl, ho0, hb⟩
     refine ⟨_, rfl, ?_⟩
     have HO120 := as_ (Kd.R_lower ho0 (below_size bA))
     replace HO117 := as_ (Kd.R_below (rD HO117) hb)
     replace BK109 := bb BK109 hb
     replace BK110 := as_ (blk_below (g := gb110) (o := .cells #[.int .i64 0, .int .i64 0, .int .i64 0, .string (⟨#[]⟩ : ByteArray), .slice none 0 0, .slice none 0 0] 25 (0, 0)) (bk BK110) hb)
     replace BK121 := as_ (blk_below (g := gb121) (o := .cells #[.int .i64 0, .int .i64 0, .int .i64 0, .string (⟨#[]⟩ : ByteArray), .slice none 0 0, .slice none 0 0] 25 (0, 0)) (bk BK121) hb)
     replace HB := as_ (below_step bA hb)
     (try clear hb)
     (try clear hb2)
     (try clear hk)
     (try clear hi)
     (try clear ho0)
     obtain ⟨Ao58, co58, eo58⟩ := Kd.R_slice HO120.out
     (first | subst eo58 | (injection eo58 with f1_ f2_ f3_; have f4_ := f1_.symm; have f5_ := f3_.symm; clear f1_ f2_ f3_; subst f4_; subst f5_))
     obtain ⟨Ao59, co59, eo59⟩ := Kd.R_slice HO117.out
     (first | subst eo59 | (injection eo59 with f1_ f2_ f3_; have f4_ := f1_.symm; have f5_ := f3_.symm; clear f1_ f2_ f3_; subst f4_; subst f5_))
     refine hK.out _ _ ⟨(blk_cell BK109.out 0).trans rfl, (blk_cell BK109.out 1).trans rfl, (blk_cell BK109.out 2).trans rfl, (blk_cell BK109.out 3).trans rfl, (blk_cell BK109.out 4).trans rfl, (blk_cell BK109.out 5).trans rfl⟩ (fun hHeld => ?_)
     clear hK K
     refine nm_ (some 28) (h := ?_)
     refine pu_ 25 (some 29) (mr [27, 1]) rfl rfl (h := ?_)
     exact norm_ (by simp only [putAll, Act.put, List.setIfInBounds_toArray, List.set_cons_zero, List.set_cons_succ]) (hCont (v112, .slice Ao59 y115.length co59, .slice Ao58 t118.length co58, gb121) _ ⟨hHeld, (rD HO117), (rD HO120), (bk BK109), (bk BK110), (bk BK121), GW121.out, GE121.out, NB109_121.out, NB121_109.out, NB110_121.out, NB121_110.out, bA⟩)
   ·skip
    refine box_step ?hg (N := 3) ?hd (cs := #[.int .i64 0, .int .i64 0, .int .i64 0, .string (⟨#[]⟩ : ByteArray), .slice none 0 0, .slice none 0 0]) (t := 25) ?hr ?_; (case hd => rfl); (case hg => rfl); (case hr => first | (go_simp; done) | (go_simp; rfl))
    intro gb121 hg w53 hbox hb
    have BK121 := as_ (hbox)
    have GW121 := gw hg bA
    have GE121 := gw hg bA
    have NB109_121 := nl BK109 hg
    have NB121_109 := ng BK109 hg
    have NB110_121 := as_ ((by rw [hg]; exact Nat.ne_of_lt (blk_lt (g := gb110) (o := .cells #[.int .i64 0, .int .i64 0, .int .i64 0, .string (⟨#[]⟩ : ByteArray), .slice none 0 0, .slice none 0 0] 25 (0, 0)) (bk BK110)) : gb110 ≠ gb121))
    have NB121_110 := as_ ((by rw [hg]; exact Nat.ne_of_gt (blk_lt (g := gb110) (o := .cells #[.int .i64 0, .int .i64 0, .int .i64 0, .string (⟨#[]⟩ : ByteArray), .slice none 0 0, .slice none 0 0] 25 (0, 0)) (bk BK110)) : gb121 ≠ gb110))
    replace BK109 := bb BK109 hb
    replace BK110 := as_ (blk_below (g := gb110) (o := .cells #[.int .i64 0, .int .i64 0, .int .i64 0, .string (⟨#[]⟩ : ByteArray), .slice none 0 0, .slice none 0 0] 25 (0, 0)) (bk BK110) hb)
    replace HB := as_ (below_step bA hb)
    clear hb hbox hg
    refine hK.out _ _ ⟨(blk_cell BK109.out 0).trans rfl, (blk_cell BK109.out 1).trans rfl, (blk_cell BK109.out 2).trans rfl, (blk_cell BK109.out 3).trans rfl, (blk_cell BK109.out 4).trans rfl, (blk_cell BK109.out 5).trans rfl⟩ (fun hHeld => ?_)
    clear hK K
    refine nm_ (some 3) (h := ?_)
    refine one_ (i := 13) (N := some 17) (mr [21, 1, 2, 2, 1, 1]) rfl rfl (one_of HT_.out (by kernel_rfl)) (by decide) (fun K hK => ?_)
    refine Kd.R_lit_step (Kd.int .i64) _ 3 ?hg (N := 17) ?hd (xs := ([] : List Int)) (inner := []) (ok := fun _ => True) (okp := fun _ => True) ?hr ?hp (fun _ hk => hk) trivial (Below.refl _ _) (Nat.le_refl _) (by simp) ?_; (case hd => rfl); (case hg => rfl); (case hr => first | (go_simp; done) | (go_simp; rfl)); (case hp => exact (Reps.none _ _))
    intro v112 w54 ho55 hb hg_ hnew_
    clear hg_ hnew_
    (first | rw [← Ny111.out] at ho55 | (simp only [Int.reduceToNat] at ho55; rw [← Ny111.out] at ho55))
    have HO113 := as_ (Kd.R_lower ho55 (below_size bA))
    replace BK109 := bb BK109 hb
    replace BK110 := as_ (blk_below (g := gb110) (o := .cells #[.int .i64 0, .int .i64 0, .int .i64 0, .string (⟨#[]⟩ : ByteArray), .slice none 0 0, .slice none 0 0] 25 (0, 0)) (bk BK110) hb)
    replace BK121 := as_ (blk_below (g := gb121) (o := .cells #[.int .i64 0, .int .i64 0, .int .i64 0, .string (⟨#[]⟩ : ByteArray), .slice none 0 0, .slice none 0 0] 25 (0, 0)) (bk BK121) hb)
    replace HB := as_ (below_step bA hb)
    clear hb ho55
    refine hK.out _ _ ⟨(blk_cell BK109.out 0).trans rfl, (blk_cell BK109.out 1).trans rfl, (blk_cell BK109.out 2).trans rfl, (blk_cell BK109.out 3).trans rfl, (blk_cell BK109.out 4).trans rfl, (blk_cell BK109.out 5).trans rfl⟩ (fun hHeld => ?_)
    clear hK K
    refine nm_ (some 17) (h := ?_)
    refine one_ (i := 21) (N := some 25) (mr [24, 2, 1, 1]) rfl rfl (one_of HT_.out (by kernel_rfl)) (by decide) (fun K hK => ?_)
    refine Kd.R_append_rows_step (Kd.int .i64) (w0 := w) w.heap.size (by rfl) (.tmp 17) (.tmp 24) 22 3 (.int .i64 0) 8 rfl Tryz.underlying22 info3 rfl (by decide) (by omega) v112 y111 (l0_4.take ((ji6) : Int).toNat) _ _ _ (fun _ => True) (fun _ => False) rfl rfl ?aO ?aR (fun _ _ h => h) (fun _ h => h.elim) ?aF ?aB ?aS ?aL ?_
    (case aR => first | ((have hz_ := Kd.C_below HR114.out HB.out); (rw [show (l0_4.take ((ji6) : Int).toNat).length = (ji6).toNat from (by rw [List.length_take]; have h_ : ((ji6) : Int) ≤ (l0_4.length : Int) := of_decide_eq_true aM; omega)] at hz_); (repeat (first | exact hz_ | (with_reducible refine Kd.C_alloc ?_ _) | (with_reducible refine Kd.C_drewN ?_ _) | (with_reducible refine Kd.C_drew ?_))); done) | (rw [← show (l0_4.take ((ji6) : Int).toNat).length = (ji6).toNat from (by rw [List.length_take]; have h_ : ((ji6) : Int) ≤ (l0_4.length : Int) := of_decide_eq_true aM; omega)]; repeat (first | exact (Kd.C_below HR114.out HB.out) | (with_reducible refine Kd.C_alloc ?_ _) | (with_reducible refine Kd.C_drewN ?_ _) | (with_reducible refine Kd.C_drew ?_))) | (repeat (first | exact (Kd.C_below HR114.out HB.out) | (with_reducible refine Kd.C_alloc ?_ _) | (with_reducible refine Kd.C_drewN ?_ _) | (with_reducible refine Kd.C_drew ?_))))
    (case aB => exact bA)
    (case aF => exact (fun _ _ => trivial))
    (case aO => exact (rD HO113))
    (case aS => exact (below_size bA))
    (case aL => have := LMc9.out; have hlx_ := (show (l0_4.take ((ji6) : Int).toNat).length = (ji6).toNat from (by rw [List.length_take]; have h_ : ((ji6) : Int) ≤ (l0_4.length : Int) := of_decide_eq_true aM; omega)); omega)
    intro v116 w56 ho hb hg hat
    rw [← Ny115.out] at ho
    have HO117 := as_ (ho)
    replace BK109 := as_ (blk_grown (g := gb109) (o := .cells #[.int .i64 a0_0, .int .i64 a0_1, .int .i64 a0_2, .string a0_3, .slice A0_4 l0_4.length c0_4, .slice A0_5 l0_5.length c0_5] 25 (0, 0)) (bk BK109) hg (Kd.R_ne HO113.out BK109.out (by decide)))
    replace BK110 := as_ (blk_grown (g := gb110) (o := .cells #[.int .i64 0, .int .i64 0, .int .i64 0, .string (⟨#[]⟩ : ByteArray), .slice none 0 0, .slice none 0 0] 25 (0, 0)) (bk BK110) hg (Kd.R_ne HO113.out BK110.out (by decide)))
    replace BK121 := as_ (blk_grown (g := gb121) (o := .cells #[.int .i64 0, .int .i64 0, .int .i64 0, .string (⟨#[]⟩ : ByteArray), .slice none 0 0, .slice none 0 0] 25 (0, 0)) (bk BK121) hg (Kd.R_ne HO113.out BK121.out (by decide)))
    replace HB := as_ (hb)
    clear HO113
    clear ho hb hg hat
    refine hK.out _ _ ⟨(blk_cell BK109.out 0).trans rfl, (blk_cell BK109.out 1).trans rfl, (blk_cell BK109.out 2).trans rfl, (blk_cell BK109.out 3).trans rfl, (blk_cell BK109.out 4).trans rfl, (blk_cell BK109.out 5).trans rfl⟩ (fun hHeld => ?_)
    clear hK K
    refine nm_ (some 25) (h := ?_)
    refine one_ (i := 24) (N := some 28) (mr [25, 1, 1, 1]) rfl rfl (one_of HT_.out (by kernel_rfl)) (by decide) (fun K hK => ?_)
    refine goes_ Tryz.func31 (by kernel_rfl) rfl #[.slice A0_5 l0_5.length c0_5] (by rfl) rfl rfl aO ?_
    with_reducible refine (withylaw05_Cut.calls k _ _ l0_5 t118 _ ?side1 ?side2 A10.out).mono ?_
    (case side1 => repeat (first | exact (Kd.C_below HR0_5.out HB.out) | (with_reducible refine Kd.C_alloc ?_ _) | (with_reducible refine Kd.C_drewN ?_ _) | (with_reducible refine Kd.C_drew ?_)))
    (case side2 => exact HC0_5.out)
    rintro e w57 ⟨v119, rfl, ho0, hb⟩
    refine ⟨_, rfl, ?_⟩
    have HO120 := as_ (Kd.R_lower ho0 (below_size bA))
    replace HO117 := as_ (Kd.R_below (rD HO117) hb)
    replace BK109 := bb BK109 hb
    replace BK110 := as_ (blk_below (g := gb110) (o := .cells #[.int .i64 0, .int .i64 0, .int .i64 0, .string (⟨#[]⟩ : ByteArray), .slice none 0 0, .slice none 0 0] 25 (0, 0)) (bk BK110) hb)
    replace BK121 := as_ (blk_below (g := gb121) (o := .cells #[.int .i64 0, .int .i64 0, .int .i64 0, .string (⟨#[]⟩ : ByteArray), .slice none 0 0, .slice none 0 0] 25 (0, 0)) (bk BK121) hb)
    replace HB := as_ (below_step bA hb)
    (try clear hb)
    (try clear hb2)
    (try clear hk)
    (try clear hi)
    (try clear ho0)
    obtain ⟨Ao58, co58, eo58⟩ := Kd.R_slice HO120.out
    (first | subst eo58 | (injection eo58 with f1_ f2_ f3_; have f4_ := f1_.symm; have f5_ := f3_.symm; clear f1_ f2_ f3_; subst f4_; subst f5_))
    obtain ⟨Ao59, co59, eo59⟩ := Kd.R_slice HO117.out
    (first | subst eo59 | (injection eo59 with f1_ f2_ f3_; have f4_ := f1_.symm; have f5_ := f3_.symm; clear f1_ f2_ f3_; subst f4_; subst f5_))
    refine hK.out _ _ ⟨(blk_cell BK109.out 0).trans rfl, (blk_cell BK109.out 1).trans rfl, (blk_cell BK109.out 2).trans rfl, (blk_cell BK109.out 3).trans rfl, (blk_cell BK109.out 4).trans rfl, (blk_cell BK109.out 5).trans rfl⟩ (fun hHeld => ?_)
    clear hK K
    refine nm_ (some 28) (h := ?_)
    refine pu_ 25 (some 29) (mr [27, 1]) rfl rfl (h := ?_)
    exact norm_ (by simp only [putAll, Act.put, List.setIfInBounds_toArray, List.set_cons_zero, List.set_cons_succ]) (hCont (v112, .slice Ao59 y115.length co59, .slice Ao58 t118.length co58, gb121) _ ⟨hHeld, (rD HO117), (rD HO120), (bk BK109), (bk BK110), (bk BK121), GW121.out, GE121.out, NB109_121.out, NB121_109.out, NB110_121.out, NB121_110.out, bA⟩)
  rintro ⟨v112, v116, v119, gb121⟩ w60 ⟨hS_, h0_, h1_, h2_, h3_, h4_, h5_, h6_, h7_, h8_, h9_, h10_, h11_⟩
  have n0_ : Aside0 (Kd.R (Kd.int .i64) 3 w60 w.heap.size (fun _ => True) v116 y115) := ⟨h0_⟩
  have n1_ : Aside0 (Kd.R Kd.string 9 w60 w.heap.size (fun _ => True) v119 t118) := ⟨h1_⟩
  have n2_ : Aside0 (w60.heap[gb109]? = some (.cells #[.int .i64 a0_0, .int .i64 a0_1, .int .i64 a0_2, .string a0_3, .slice A0_4 l0_4.length c0_4, .slice A0_5 l0_5.length c0_5] 25 (0, 0))) := ⟨h2_⟩
  have n3_ : Aside0 (w60.heap[gb110]? = some (.cells #[.int .i64 0, .int .i64 0, .int .i64 0, .string (⟨#[]⟩ : ByteArray), .slice none 0 0, .slice none 0 0] 25 (0, 0))) := ⟨h3_⟩
  have n4_ : Aside0 (w60.heap[gb121]? = some (.cells #[.int .i64 0, .int .i64 0, .int .i64 0, .string (⟨#[]⟩ : ByteArray), .slice none 0 0, .slice none 0 0] 25 (0, 0))) := ⟨h4_⟩
  have n5_ : Aside0 (w.heap.size ≤ gb121) := ⟨h5_⟩
  have n6_ : Aside0 (w.heap.size ≤ gb121) := ⟨h6_⟩
  have n7_ : Aside0 (gb109 ≠ gb121) := ⟨h7_⟩
  have n8_ : Aside0 (gb121 ≠ gb109) := ⟨h8_⟩
  have n9_ : Aside0 (gb110 ≠ gb121) := ⟨h9_⟩
  have n10_ : Aside0 (gb121 ≠ gb110) := ⟨h10_⟩
  have n11_ : Aside0 (Below w.heap.size w w60) := ⟨h11_⟩
  clear BK109
  clear BK110
  clear HB
  clear h0_ h1_ h2_ h3_ h4_ h5_ h6_ h7_ h8_ h9_ h10_ h11_
  have HO117 := n0_
  have HO120 := n1_
  have BK109 := n2_
  have BK110 := n3_
  have BK121 := n4_
  have GW121 := n5_
  have GE121 := n6_
  have NB109_121 := n7_
  have NB121_109 := n8_
  have NB110_121 := n9_
  have NB121_110 := n10_
  have HB := n11_
  clear n0_ n1_ n2_ n3_ n4_ n5_ n6_ n7_ n8_ n9_ n10_ n11_
  have hHeld : w60.cell? ⟨gb109, 0, none⟩ = some (.int .i64 a0_0) ∧ w60.cell? ⟨gb109, 1, none⟩ = some (.int .i64 a0_1) ∧ w60.cell? ⟨gb109, 2, none⟩ = some (.int .i64 a0_2) ∧ w60.cell? ⟨gb109, 3, none⟩ = some (.string a0_3) ∧ w60.cell? ⟨gb109, 4, none⟩ = some (.slice A0_4 l0_4.length c0_4) ∧ w60.cell? ⟨gb109, 5, none⟩ = some (.slice A0_5 l0_5.length c0_5) := hS_
  obtain ⟨Ao61, co61, eo61⟩ := Kd.R_slice HO120.out
  (first | subst eo61 | (injection eo61 with f1_ f2_ f3_; have f4_ := f1_.symm; have f5_ := f3_.symm; clear f1_ f2_ f3_; subst f4_; subst f5_))
  obtain ⟨Ao62, co62, eo62⟩ := Kd.R_slice HO117.out
  (first | subst eo62 | (injection eo62 with f1_ f2_ f3_; have f4_ := f1_.symm; have f5_ := f3_.symm; clear f1_ f2_ f3_; subst f4_; subst f5_))
  refine norm_ (a' := ?_) ?_ ?_
  rotate_left
  ·simp only [putAll, Act.put, List.setIfInBounds_toArray, List.set_cons_zero, List.set_cons_succ]
   rfl
  refine one_ (i := 27) (N := none) (mr [28]) rfl rfl (one_of HT_.out (by kernel_rfl)) (by decide) (fun K hK => ?_)
  have hs63 : w60.cell? ⟨gb121, 0, none⟩ = some (.int .i64 0) := (blk_cell BK121.out 0).trans rfl
  have hfs63 := blk_frozen BK121.out 0
  have hns63_0 := NB109_121.out
  have hns63_1 := NB110_121.out
  have hms63_0 := NB121_109.out
  have hms63_1 := NB121_110.out
  have hs64 : w60.cell? ⟨gb121, 1, none⟩ = some (.int .i64 0) := (blk_cell BK121.out 1).trans rfl
  have hfs64 := blk_frozen BK121.out 1
  have hns64_0 := NB109_121.out
  have hns64_1 := NB110_121.out
  have hms64_0 := NB121_109.out
  have hms64_1 := NB121_110.out
  have hs65 : w60.cell? ⟨gb121, 2, none⟩ = some (.int .i64 0) := (blk_cell BK121.out 2).trans rfl
  have hfs65 := blk_frozen BK121.out 2
  have hns65_0 := NB109_121.out
  have hns65_1 := NB110_121.out
  have hms65_0 := NB121_109.out
  have hms65_1 := NB121_110.out
  have hs66 : w60.cell? ⟨gb121, 3, none⟩ = some (.string (⟨#[]⟩ : ByteArray)) := (blk_cell BK121.out 3).trans rfl
  have hfs66 := blk_frozen BK121.out 3
  have hns66_0 := NB109_121.out
  have hns66_1 := NB110_121.out
  have hms66_0 := NB121_109.out
  have hms66_1 := NB121_110.out
  have hs67 : w60.cell? ⟨gb121, 4, none⟩ = some (.slice none 0 0) := (blk_cell BK121.out 4).trans rfl
  have hfs67 := blk_frozen BK121.out 4
  have hns67_0 := NB109_121.out
  have hns67_1 := NB110_121.out
  have hms67_0 := NB121_109.out
  have hms67_1 := NB121_110.out
  have hs68 : w60.cell? ⟨gb121, 5, none⟩ = some (.slice none 0 0) := (blk_cell BK121.out 5).trans rfl
  have hfs68 := blk_frozen BK121.out 5
  have hns68_0 := NB109_121.out
  have hns68_1 := NB110_121.out
  have hms68_0 := NB121_109.out
  have hms68_1 := NB121_110.out
  refine skip_ (w1 := ?_) (by rfl) rfl ?_ ?_
  rotate_left
  ·go_simp
   rfl
  refine hK.out _ _ ⟨((cell_far (p := ⟨gb121, _, none⟩) NB109_121.out _).trans (((cell_far (p := ⟨gb121, _, none⟩) NB109_121.out _).trans (((cell_far (p := ⟨gb121, _, none⟩) NB109_121.out _).trans (((cell_far (p := ⟨gb121, _, none⟩) NB109_121.out _).trans (((cell_far (p := ⟨gb121, _, none⟩) NB109_121.out _).trans (((cell_far (p := ⟨gb121, _, none⟩) NB109_121.out _).trans (hHeld.1)))))))))))), ((cell_far (p := ⟨gb121, _, none⟩) NB109_121.out _).trans (((cell_far (p := ⟨gb121, _, none⟩) NB109_121.out _).trans (((cell_far (p := ⟨gb121, _, none⟩) NB109_121.out _).trans (((cell_far (p := ⟨gb121, _, none⟩) NB109_121.out _).trans (((cell_far (p := ⟨gb121, _, none⟩) NB109_121.out _).trans (((cell_far (p := ⟨gb121, _, none⟩) NB109_121.out _).trans (hHeld.2.1)))))))))))), ((cell_far (p := ⟨gb121, _, none⟩) NB109_121.out _).trans (((cell_far (p := ⟨gb121, _, none⟩) NB109_121.out _).trans (((cell_far (p := ⟨gb121, _, none⟩) NB109_121.out _).trans (((cell_far (p := ⟨gb121, _, none⟩) NB109_121.out _).trans (((cell_far (p := ⟨gb121, _, none⟩) NB109_121.out _).trans (((cell_far (p := ⟨gb121, _, none⟩) NB109_121.out _).trans (hHeld.2.2.1)))))))))))), ((cell_far (p := ⟨gb121, _, none⟩) NB109_121.out _).trans (((cell_far (p := ⟨gb121, _, none⟩) NB109_121.out _).trans (((cell_far (p := ⟨gb121, _, none⟩) NB109_121.out _).trans (((cell_far (p := ⟨gb121, _, none⟩) NB109_121.out _).trans (((cell_far (p := ⟨gb121, _, none⟩) NB109_121.out _).trans (((cell_far (p := ⟨gb121, _, none⟩) NB109_121.out _).trans (hHeld.2.2.2.1)))))))))))), ((cell_far (p := ⟨gb121, _, none⟩) NB109_121.out _).trans (((cell_far (p := ⟨gb121, _, none⟩) NB109_121.out _).trans (((cell_far (p := ⟨gb121, _, none⟩) NB109_121.out _).trans (((cell_far (p := ⟨gb121, _, none⟩) NB109_121.out _).trans (((cell_far (p := ⟨gb121, _, none⟩) NB109_121.out _).trans (((cell_far (p := ⟨gb121, _, none⟩) NB109_121.out _).trans (hHeld.2.2.2.2.1)))))))))))), ((cell_far (p := ⟨gb121, _, none⟩) NB109_121.out _).trans (((cell_far (p := ⟨gb121, _, none⟩) NB109_121.out _).trans (((cell_far (p := ⟨gb121, _, none⟩) NB109_121.out _).trans (((cell_far (p := ⟨gb121, _, none⟩) NB109_121.out _).trans (((cell_far (p := ⟨gb121, _, none⟩) NB109_121.out _).trans (((cell_far (p := ⟨gb121, _, none⟩) NB109_121.out _).trans (hHeld.2.2.2.2.2))))))))))))⟩ (fun hHeld => ?_)
  clear hK K
  refine done_ (done_of HT_.out (by kernel_rfl)) ?_
  have hnb69 := NB109_110.out
  have hnc69 := NB110_109.out
  have hnb70 := NB109_121.out
  have hnc70 := NB121_109.out
  obtain ⟨hcz71_0, hcz71_1, hcz71_2, hcz71_3, hcz71_4, hcz71_5⟩ := zc6 BK109
  obtain ⟨hfz71_0, hfz71_1, hfz71_2, hfz71_3, hfz71_4, hfz71_5⟩ := zf6 BK109
  have hnb72 := NB121_110.out
  have hnc72 := NB110_121.out
  obtain ⟨hcz73_0, hcz73_1, hcz73_2, hcz73_3, hcz73_4, hcz73_5⟩ := zc6 BK121
  obtain ⟨hfz73_0, hfz73_1, hfz73_2, hfz73_3, hfz73_4, hfz73_5⟩ := zf6 BK121
  obtain ⟨hcz74_0, hcz74_1, hcz74_2, hcz74_3, hcz74_4, hcz74_5⟩ := zc6 BK110
  obtain ⟨hfz74_0, hfz74_1, hfz74_2, hfz74_3, hfz74_4, hfz74_5⟩ := zf6 BK110
  try go_wp2
  refine bodyPost_ret (results_cell_row rfl _ _ gb110 25 #[.int .i64 a0_0, .int .i64 a0_1, .int .i64 a0_2, .string js5, .slice Ao62 y115.length co62, .slice Ao61 t118.length co61] (0, 0) _ rfl (by refine bx ?_; refine blk_put (cs := #[.int .i64 a0_0, .int .i64 a0_1, .int .i64 a0_2, .string js5, .slice Ao62 y115.length co62, .slice none 0 0]) ?_ 5 _ rfl; refine bx ?_; refine blk_put (cs := #[.int .i64 a0_0, .int .i64 a0_1, .int .i64 a0_2, .string js5, .slice none 0 0, .slice none 0 0]) ?_ 4 _ rfl; refine bx ?_; refine blk_put (cs := #[.int .i64 a0_0, .int .i64 a0_1, .int .i64 a0_2, .string (⟨#[]⟩ : ByteArray), .slice none 0 0, .slice none 0 0]) ?_ 3 _ rfl; refine bx ?_; refine blk_put (cs := #[.int .i64 a0_0, .int .i64 a0_1, .int .i64 0, .string (⟨#[]⟩ : ByteArray), .slice none 0 0, .slice none 0 0]) ?_ 2 _ rfl; refine bx ?_; refine blk_put (cs := #[.int .i64 a0_0, .int .i64 0, .int .i64 0, .string (⟨#[]⟩ : ByteArray), .slice none 0 0, .slice none 0 0]) ?_ 1 _ rfl; refine bx ?_; refine blk_put (cs := #[.int .i64 0, .int .i64 0, .int .i64 0, .string (⟨#[]⟩ : ByteArray), .slice none 0 0, .slice none 0 0]) ?_ 0 _ rfl; refine bx ?_; refine blk_far ?_ NB110_121.out _; refine bx ?_; refine blk_far ?_ NB110_121.out _; refine bx ?_; refine blk_far ?_ NB110_121.out _; refine bx ?_; refine blk_far ?_ NB110_121.out _; refine bx ?_; refine blk_far ?_ NB110_121.out _; refine bx ?_; refine blk_far ?_ NB110_121.out _; refine bx ?_; exact BK110.out) Tryz.underlying25 rfl (by kernel_rfl)) rfl ?_
  exact ⟨_, _, by first | rfl | (simp [errW_none, errW_some] <;> rfl) | (simp only [← hji2, ← hjs5, ← hji6]; first | rfl | (simp [errW_none, errW_some] <;> rfl)) | (simp [*, errW_none, errW_some] <;> rfl), by (with_reducible repeat (first | apply Kd.R_alloc | apply Kd.R_drewN | apply Kd.R_drew)); exact Kd.R_mono (Kd.R_far (p := ⟨gb110, 5, none⟩) (Kd.R_far (p := ⟨gb110, 4, none⟩) (Kd.R_far (p := ⟨gb110, 3, none⟩) (Kd.R_far (p := ⟨gb110, 2, none⟩) (Kd.R_far (p := ⟨gb110, 1, none⟩) (Kd.R_far (p := ⟨gb110, 0, none⟩) (Kd.R_far (p := ⟨gb121, 5, none⟩) (Kd.R_far (p := ⟨gb121, 4, none⟩) (Kd.R_far (p := ⟨gb121, 3, none⟩) (Kd.R_far (p := ⟨gb121, 2, none⟩) (Kd.R_far (p := ⟨gb121, 1, none⟩) (Kd.R_far (p := ⟨gb121, 0, none⟩) (Kd.R_types (Kd.R_types HO117.out BK121.out (by decide)) BK110.out (by decide)) (fun _ hk => hk.1.2) (.int .i64 a0_0)) (fun _ hk => hk.1.2) (.int .i64 a0_1)) (fun _ hk => hk.1.2) (.int .i64 a0_2)) (fun _ hk => hk.1.2) (.string js5)) (fun _ hk => hk.1.2) (.slice Ao62 y115.length co62)) (fun _ hk => hk.1.2) (.slice Ao61 t118.length co61)) (fun _ hk => hk.2) (.int .i64 a0_0)) (fun _ hk => hk.2) (.int .i64 a0_1)) (fun _ hk => hk.2) (.int .i64 a0_2)) (fun _ hk => hk.2) (.string js5)) (fun _ hk => hk.2) (.slice Ao62 y115.length co62)) (fun _ hk => hk.2) (.slice Ao61 t118.length co61)) (fun _ hk => trivial), by (with_reducible repeat (first | apply Kd.R_alloc | apply Kd.R_drewN | apply Kd.R_drew)); exact Kd.R_mono (Kd.R_far (p := ⟨gb110, 5, none⟩) (Kd.R_far (p := ⟨gb110, 4, none⟩) (Kd.R_far (p := ⟨gb110, 3, none⟩) (Kd.R_far (p := ⟨gb110, 2, none⟩) (Kd.R_far (p := ⟨gb110, 1, none⟩) (Kd.R_far (p := ⟨gb110, 0, none⟩) (Kd.R_far (p := ⟨gb121, 5, none⟩) (Kd.R_far (p := ⟨gb121, 4, none⟩) (Kd.R_far (p := ⟨gb121, 3, none⟩) (Kd.R_far (p := ⟨gb121, 2, none⟩) (Kd.R_far (p := ⟨gb121, 1, none⟩) (Kd.R_far (p := ⟨gb121, 0, none⟩) (Kd.R_types (Kd.R_types HO120.out BK121.out (by decide)) BK110.out (by decide)) (fun _ hk => hk.1.2) (.int .i64 a0_0)) (fun _ hk => hk.1.2) (.int .i64 a0_1)) (fun _ hk => hk.1.2) (.int .i64 a0_2)) (fun _ hk => hk.1.2) (.string js5)) (fun _ hk => hk.1.2) (.slice Ao62 y115.length co62)) (fun _ hk => hk.1.2) (.slice Ao61 t118.length co61)) (fun _ hk => hk.2) (.int .i64 a0_0)) (fun _ hk => hk.2) (.int .i64 a0_1)) (fun _ hk => hk.2) (.int .i64 a0_2)) (fun _ hk => hk.2) (.string js5)) (fun _ hk => hk.2) (.slice Ao62 y115.length co62)) (fun _ hk => hk.2) (.slice Ao61 t118.length co61)) (fun _ hk => trivial), bA⟩
 rw [if_pos c11] at H
 have c11b0 : decide (0 < (l0_5.length : Int)) = true := decide_eq_true c11
 have c11b1 : decide (0 < l0_5.length) = true := decide_eq_true (by omega)
 clear c11
 obtain ⟨c12, H⟩ := iN (c := 0 < (l0_5.length : Int)) H
 have c12b0 := decide_eq_true c12
 have c12b1 : decide (0 < l0_5.length) = true := decide_eq_true (by omega)
 clear c12
 obtain ⟨ji13, hji13⟩ : ∃ j_ : Int, (mn ((rdOf ByteArray.empty l0_5 0).size : Int) 140) = j_ := ⟨_, rfl⟩
 replace H : (if 0 ≤ (ji13) then (if (ji13) ≤ ((rdOf ByteArray.empty l0_5 0).size : Int) then (if 0 < (t118.length : Int) then (some (a0_0, a0_1, a0_2, js5, y115, (t118.set (0 : Int).toNat ((rdOf ByteArray.empty l0_5 0).extract 0 ((ji13) : Int).toNat)))) else (none)) else (none)) else (none)) = some (r1, r2, r3, r4, r5, r6) := by first | (rw [hji13] at H; exact H) | (simp only [hji13] at H ⊢; exact H)
 (try rw [hji13] at A10)
 (try (have hji13h : ji13 ≤ 140 := by (rw [← hji13]; unfold mn; (repeat' split) <;> omega)))
 (try (have hji13g : ji13 ≤ 64 := by omega))
 (try (have hji13l : 0 ≤ ji13 := by (rw [← hji13]; unfold mn; (repeat' split) <;> omega)))
 (try (have hji13m : 0 ≤ ji13 := by omega))
 have hji13_ : (if 140 < ((rdOf ByteArray.empty l0_5 0).size : Int) then 140 else ((rdOf ByteArray.empty l0_5 0).size : Int)) = ji13 := hji13
 obtain ⟨c14, H⟩ := iN (c := 0 ≤ (ji13)) H
 have c14b0 := eq_true c14
 have c14b1 := decide_eq_true c14
 clear c14
 obtain ⟨c15, H⟩ := iN (c := (ji13) ≤ ((rdOf ByteArray.empty l0_5 0).size : Int)) H
 have c15b0 := eq_true c15
 have c15b1 := decide_eq_true c15
 clear c15
 obtain ⟨js16, hjs16⟩ : ∃ j_ : ByteArray, ((rdOf ByteArray.empty l0_5 0).extract 0 ((ji13) : Int).toNat) = j_ := ⟨_, rfl⟩
 replace H : (if 0 < (t118.length : Int) then (some (a0_0, a0_1, a0_2, js5, y115, (t118.set (0 : Int).toNat (js16)))) else (none)) = some (r1, r2, r3, r4, r5, r6) := by first | (rw [hjs16] at H; exact H) | (simp only [hjs16] at H ⊢; exact H)
 (try rw [hjs16] at A10)
 obtain ⟨c17, H⟩ := iN (c := 0 < (t118.length : Int)) H
 have c17b0 := decide_eq_true c17
 have c17b1 : decide (0 < t118.length) = true := decide_eq_true (by omega)
 clear c17
 obtain ⟨y124, hy124⟩ : ∃ y_ : List ByteArray, y_ = (t118.set (0 : Int).toNat (js16)) := ⟨_, rfl⟩
 replace H : (some (a0_0, a0_1, a0_2, js5, y115, y124)) = some (r1, r2, r3, r4, r5, r6) := by first | (rw [hy124]; with_reducible exact H) | (have H2_ := (Option.bind_some _ _).symm.trans H; rw [hy124]; with_reducible exact H2_) | (have H2_ := (Option.bind_some _ _).symm.trans H; with_reducible exact H2_) | with_reducible exact H | (rw [hy124]; exact H) | exact H
 have Ny124 := Aside0.mk hy124
 clear hy124
 simp only [Option.some.injEq, Prod.mk.injEq] at H
 obtain ⟨rfl, rfl, rfl, rfl, rfl, rfl⟩ := H
 go_enter Tryz.func9, Tryz.ntmps9
 try go_wp2_with (first | ((with_reducible refine gate_dst (N := 1) rfl ?_); refine box_event (by rfl) (N := 1) (by rfl) (cs := #[.int .i64 a0_0, .int .i64 a0_1, .int .i64 a0_2, .string a0_3, .slice A0_4 l0_4.length c0_4, .slice A0_5 l0_5.length c0_5]) (t := 25) gS ?_; intro gb109 hg w19 hbox hb; have BK109 := as_ (hbox); have GW109 := gw hg bA; have GE109 := gw hg bA; replace HB := as_ (below_step bA hb); clear hb hbox hg) | ((with_reducible refine gate_dst (N := 2) rfl ?_); refine box_event ?hg (N := 2) ?hd (cs := #[.int .i64 0, .int .i64 0, .int .i64 0, .string (⟨#[]⟩ : ByteArray), .slice none 0 0, .slice none 0 0]) (t := 25) ?hr ?_; (case hd => rfl); (case hg => rfl); (case hr => first | (go_simp; done) | (go_simp; rfl)); intro gb110 hg w20 hbox hb; have BK110 := as_ (hbox); have GW110 := gw hg bA; have GE110 := gw hg bA; have NB109_110 := nl BK109 hg; have NB110_109 := ng BK109 hg; replace BK109 := bb BK109 hb; replace HB := as_ (below_step bA hb); clear hb hbox hg))
 replace BK109 := as_ (blk_drew BK109.out)
 replace BK110 := as_ (blk_drew BK110.out)
 replace HB := as_ (below_drew1 HB.out)
 obtain ⟨i022, hi022, _, hsz22, _⟩ := info_parts info3
 obtain ⟨hcut22, hA22, hC22⟩ := print_take_of (P := Tryz.prog) (Value.int .i64) 0 22 3 .i64 Tryz.underlying22 hi022 hsz22 A0_4 c0_4 l0_4 (ji6) (of_decide_eq_true aM) (of_decide_eq_true aM) HC0_4.out
 have HR114 := as_ (Kd.C_of_reads (h1 := fun _ => rfl) (hA22 _ (Kd.reads_of_C HR0_4.out)))
 have HC114 := Aside0.mk hC22
 clear hA22 hC22 hi022 hsz22
 refine start_ (n := 28) (S := fun w' => w'.cell? ⟨gb109, 0, none⟩ = some (.int .i64 a0_0) ∧ w'.cell? ⟨gb109, 1, none⟩ = some (.int .i64 a0_1) ∧ w'.cell? ⟨gb109, 2, none⟩ = some (.int .i64 a0_2) ∧ w'.cell? ⟨gb109, 3, none⟩ = some (.string a0_3) ∧ w'.cell? ⟨gb109, 4, none⟩ = some (.slice A0_4 l0_4.length c0_4) ∧ w'.cell? ⟨gb109, 5, none⟩ = some (.slice A0_5 l0_5.length c0_5)) (ds := []) #[ff, ff, ff, ff, ff, ff, ff, ff, ff, ff, ff, ff, ff, ff, ff, ff, ff, ff, ff, ff, ff, ff, ff, ff, ff, ff, ff, ff] (by kernel_rfl) rfl rfl ⟨(blk_cell BK109.out 0).trans rfl, (blk_cell BK109.out 1).trans rfl, (blk_cell BK109.out 2).trans rfl, (blk_cell BK109.out 3).trans rfl, (blk_cell BK109.out 4).trans rfl, (blk_cell BK109.out 5).trans rfl⟩ (fun hHeld => ?_); refine with_tabW withylaw11_Cut.tab1 withylaw11_Cut.bits1 (fun HT_ HW_ => ?_)
 generalize w20.drew = w21 at BK109 BK110 HB HR114 hHeld ⊢
 refine pu_ 0 (some 4) (mr [1, 27]) rfl rfl (h := ?_)
 refine pu_ 2 (some 6) (mr [1, 1, 1, 25]) rfl rfl (h := ?_)
 refine pu_ 4 (some 8) (mr [1, 1, 1, 1, 1, 23]) rfl rfl (h := ?_)
 refine pu_ 6 (some 10) (mr [1, 1, 1, 1, 1, 1, 1, 21]) rfl rfl (h := ?_)
 refine pu_ 8 (some 12) (mr [1, 1, 1, 1, 1, 1, 1, 1, 1, 19]) rfl rfl (h := ?_)
 refine pu_ 14 (some 18) (mr [1, 1, 1, 1, 1, 1, 1, 1, 1, 5, 1, 13]) rfl rfl (h := ?_)
 refine pu_ 16 (some 20) (mr [1, 1, 1, 1, 1, 1, 1, 1, 1, 5, 1, 1, 1, 11]) rfl rfl (h := ?_)
 refine pu_ 22 (some 26) (mr [1, 1, 1, 1, 1, 1, 1, 1, 1, 5, 1, 1, 1, 5, 1, 5]) rfl rfl (h := ?_)
 refine take_ (i := 1) (N := some 5) (v := ?_) (a' := ?_) (mr [3, 1, 1, 1, 1, 1, 1, 5, 1, 1, 1, 5, 1, 5]) rfl rfl (take_ofW HT_.out HW_.out (by kernel_rfl)) (fun _ _ _ h => h) (Or.inl ⟨by rfl, ?_⟩) hHeld ?_ ?_
 rotate_left
 ·rintro w' ⟨s0, s1, s2, s3, s4, s5⟩
  go_simp
  with_reducible rfl
 rotate_left
 ·exact aP
 refine take_ (i := 3) (N := some 7) (v := ?_) (a' := ?_) (mr [5, 1, 1, 1, 1, 5, 1, 1, 1, 5, 1, 5]) rfl rfl (take_ofW HT_.out HW_.out (by kernel_rfl)) (fun _ _ _ h => h) (Or.inl ⟨by rfl, ?_⟩) hHeld ?_ ?_
 rotate_left
 ·rintro w' ⟨s0, s1, s2, s3, s4, s5⟩
  go_simp
  with_reducible rfl
 rotate_left
 ·exact aP
 refine take_ (i := 5) (N := some 9) (v := ?_) (a' := ?_) (mr [7, 1, 1, 5, 1, 1, 1, 5, 1, 5]) rfl rfl (take_ofW HT_.out HW_.out (by kernel_rfl)) (fun _ _ _ h => h) (Or.inl ⟨by rfl, ?_⟩) hHeld ?_ ?_
 rotate_left
 ·rintro w' ⟨s0, s1, s2, s3, s4, s5⟩
  go_simp
  with_reducible rfl
 rotate_left
 ·exact aP
 refine take_ (i := 7) (N := some 11) (v := ?_) (a' := ?_) (mr [9, 5, 1, 1, 1, 5, 1, 5]) rfl rfl (take_ofW HT_.out HW_.out (by kernel_rfl)) (fun _ _ _ h => h) (Or.inl ⟨by rfl, ?_⟩) hHeld ?_ ?_
 rotate_left
 ·rintro w' ⟨s0, s1, s2, s3, s4, s5⟩
  go_simp
  with_reducible rfl
 rotate_left
 ·exact aP
 refine take_ (i := 9) (N := some 13) (v := ?_) (a' := ?_) (mr [10, 4, 1, 1, 1, 5, 1, 5]) rfl rfl (take_ofW HT_.out HW_.out (by kernel_rfl)) (fun _ _ _ h => h) (Or.inl ⟨by rfl, ?_⟩) hHeld ?_ ?_
 rotate_left
 ·rintro w' ⟨s0, s1, s2, s3, s4, s5⟩
  go_simp
  with_reducible rfl
 rotate_left
 ·exact aP
 refine pu_ 10 (some 14) (mr [11, 3, 1, 1, 1, 5, 1, 5]) rfl rfl (h := ?_)
 refine pu_ 11 (some 15) (mr [12, 2, 1, 1, 1, 5, 1, 5]) rfl rfl (h := ?_)
 refine pu_ 12 (some 16) (mr [13, 1, 1, 1, 1, 5, 1, 5]) rfl rfl (h := ?_)
 refine take_ (i := 15) (N := some 19) (v := ?_) (a' := ?_) (mr [13, 1, 3, 5, 1, 5]) rfl rfl (take_ofW HT_.out HW_.out (by kernel_rfl)) (fun _ _ _ h => h) (Or.inl ⟨by rfl, ?_⟩) hHeld ?_ ?_
 rotate_left
 ·rintro w' ⟨s0, s1, s2, s3, s4, s5⟩
  go_simp
  with_reducible rfl
 rotate_left
 ·exact aP
 refine take_ (i := 17) (N := some 21) (v := ?_) (a' := ?_) (mr [13, 1, 4, 4, 1, 5]) rfl rfl (take_ofW HT_.out HW_.out (by kernel_rfl)) (fun _ _ _ h => h) (Or.inl ⟨by rfl, ?_⟩) hHeld ?_ ?_
 rotate_left
 ·rintro w' ⟨s0, s1, s2, s3, s4, s5⟩
  go_simp
  with_reducible rfl
 rotate_left
 ·exact aP
 refine pu_ 18 (some 22) (mr [13, 1, 5, 3, 1, 5]) rfl rfl (h := ?_)
 refine pu_ 19 (some 23) (mr [13, 1, 6, 2, 1, 5]) rfl rfl (h := ?_)
 refine pu_ 20 (some 24) (mr [13, 1, 7, 1, 1, 5]) rfl rfl (h := ?_)
 refine take_ (i := 23) (N := some 27) (v := ?_) (a' := ?_) (mr [13, 1, 7, 1, 2, 4]) rfl rfl (take_ofW HT_.out HW_.out (by kernel_rfl)) (fun _ _ _ h => h) (Or.inl ⟨by rfl, ?_⟩) hHeld ?_ ?_
 rotate_left
 ·rintro w' ⟨s0, s1, s2, s3, s4, s5⟩
  go_simp
  with_reducible rfl
 rotate_left
 ·exact aP
 refine join_ (σ := Value × Value × Value × Nat) 1 (mr [27, 1]) (fun s_ => [(17, s_.1), (25, s_.2.1), (28, s_.2.2.1), (3, .pointer (some ⟨s_.2.2.2, 0, none⟩)), (29, .agg #[.int .i64 a0_0, .int .i64 a0_1, .int .i64 a0_2, .string js5, s_.2.1, s_.2.2.1])]) (fun s_ w' => (w'.cell? ⟨gb109, 0, none⟩ = some (.int .i64 a0_0) ∧ w'.cell? ⟨gb109, 1, none⟩ = some (.int .i64 a0_1) ∧ w'.cell? ⟨gb109, 2, none⟩ = some (.int .i64 a0_2) ∧ w'.cell? ⟨gb109, 3, none⟩ = some (.string a0_3) ∧ w'.cell? ⟨gb109, 4, none⟩ = some (.slice A0_4 l0_4.length c0_4) ∧ w'.cell? ⟨gb109, 5, none⟩ = some (.slice A0_5 l0_5.length c0_5)) ∧ (Kd.R (Kd.int .i64) 3 w' w.heap.size (fun _ => True) s_.2.1 y115) ∧ (Kd.R Kd.string 9 w' w.heap.size (fun _ => True) s_.2.2.1 t118) ∧ (w'.heap[gb109]? = some (.cells #[.int .i64 a0_0, .int .i64 a0_1, .int .i64 a0_2, .string a0_3, .slice A0_4 l0_4.length c0_4, .slice A0_5 l0_5.length c0_5] 25 (0, 0))) ∧ (w'.heap[gb110]? = some (.cells #[.int .i64 0, .int .i64 0, .int .i64 0, .string (⟨#[]⟩ : ByteArray), .slice none 0 0, .slice none 0 0] 25 (0, 0))) ∧ (w'.heap[s_.2.2.2]? = some (.cells #[.int .i64 0, .int .i64 0, .int .i64 0, .string (⟨#[]⟩ : ByteArray), .slice none 0 0, .slice none 0 0] 25 (0, 0))) ∧ (w.heap.size ≤ s_.2.2.2) ∧ (w.heap.size ≤ s_.2.2.2) ∧ (gb109 ≠ s_.2.2.2) ∧ (s_.2.2.2 ≠ gb109) ∧ (gb110 ≠ s_.2.2.2) ∧ (s_.2.2.2 ≠ gb110) ∧ (Below w.heap.size w w')) ?_ ?_
 rotate_left
 ·intro hCont
  refine two_ (i := 13) (j := 26) (Ni := some 17) (Nj := some 3) (mr [21, 1, 2, 4]) (mr [13, 1, 7, 1, 2, 2, 1, 1]) rfl rfl rfl rfl (two_of HT_.out (by kernel_rfl)) (by decide) (by decide) (fun K hK => ?_) (fun K hK => ?_)
  ·skip
   refine Kd.R_lit_step (Kd.int .i64) _ 3 ?hg (N := 17) ?hd (xs := ([] : List Int)) (inner := []) (ok := fun _ => True) (okp := fun _ => True) ?hr ?hp (fun _ hk => hk) trivial (Below.refl _ _) (Nat.le_refl _) (by simp) ?_; (case hd => rfl); (case hg => rfl); (case hr => first | (go_simp; done) | (go_simp; rfl)); (case hp => exact (Reps.none _ _))
   intro v112 w23 ho24 hb hg_ hnew_
   clear hg_ hnew_
   (first | rw [← Ny111.out] at ho24 | (simp only [Int.reduceToNat] at ho24; rw [← Ny111.out] at ho24))
   have HO113 := as_ (Kd.R_lower ho24 (below_size bA))
   replace BK109 := bb BK109 hb
   replace BK110 := as_ (blk_below (g := gb110) (o := .cells #[.int .i64 0, .int .i64 0, .int .i64 0, .string (⟨#[]⟩ : ByteArray), .slice none 0 0, .slice none 0 0] 25 (0, 0)) (bk BK110) hb)
   replace HB := as_ (below_step bA hb)
   clear hb ho24
   refine hK.out _ _ ⟨(blk_cell BK109.out 0).trans rfl, (blk_cell BK109.out 1).trans rfl, (blk_cell BK109.out 2).trans rfl, (blk_cell BK109.out 3).trans rfl, (blk_cell BK109.out 4).trans rfl, (blk_cell BK109.out 5).trans rfl⟩ (fun hHeld => ?_)
   clear hK K
   refine nm_ (some 17) (h := ?_)
   refine two_ (i := 21) (j := 26) (Ni := some 25) (Nj := some 3) (mr [24, 4]) (mr [21, 1, 2, 2, 1, 1]) rfl rfl rfl rfl (two_of HT_.out (by kernel_rfl)) (by decide) (by decide) (fun K hK => ?_) (fun K hK => ?_)
   ·skip
    refine Kd.R_append_rows_step (Kd.int .i64) (w0 := w) w.heap.size (by rfl) (.tmp 17) (.tmp 24) 22 3 (.int .i64 0) 8 rfl Tryz.underlying22 info3 rfl (by decide) (by omega) v112 y111 (l0_4.take ((ji6) : Int).toNat) _ _ _ (fun _ => True) (fun _ => False) rfl rfl ?aO ?aR (fun _ _ h => h) (fun _ h => h.elim) ?aF ?aB ?aS ?aL ?_
    (case aR => first | ((have hz_ := Kd.C_below HR114.out HB.out); (rw [show (l0_4.take ((ji6) : Int).toNat).length = (ji6).toNat from (by rw [List.length_take]; have h_ : ((ji6) : Int) ≤ (l0_4.length : Int) := of_decide_eq_true aM; omega)] at hz_); (repeat (first | exact hz_ | (with_reducible refine Kd.C_alloc ?_ _) | (with_reducible refine Kd.C_drewN ?_ _) | (with_reducible refine Kd.C_drew ?_))); done) | (rw [← show (l0_4.take ((ji6) : Int).toNat).length = (ji6).toNat from (by rw [List.length_take]; have h_ : ((ji6) : Int) ≤ (l0_4.length : Int) := of_decide_eq_true aM; omega)]; repeat (first | exact (Kd.C_below HR114.out HB.out) | (with_reducible refine Kd.C_alloc ?_ _) | (with_reducible refine Kd.C_drewN ?_ _) | (with_reducible refine Kd.C_drew ?_))) | (repeat (first | exact (Kd.C_below HR114.out HB.out) | (with_reducible refine Kd.C_alloc ?_ _) | (with_reducible refine Kd.C_drewN ?_ _) | (with_reducible refine Kd.C_drew ?_))))
    (case aB => exact bA)
    (case aF => exact (fun _ _ => trivial))
    (case aO => exact (rD HO113))
    (case aS => exact (below_size bA))
    (case aL => have := LMc9.out; have hlx_ := (show (l0_4.take ((ji6) : Int).toNat).length = (ji6).toNat from (by rw [List.length_take]; have h_ : ((ji6) : Int) ≤ (l0_4.length : Int) := of_decide_eq_true aM; omega)); omega)
    intro v116 w25 ho hb hg hat
    rw [← Ny115.out] at ho
    have HO117 := as_ (ho)
    replace BK109 := as_ (blk_grown (g := gb109) (o := .cells #[.int .i64 a0_0, .int .i64 a0_1, .int .i64 a0_2, .string a0_3, .slice A0_4 l0_4.length c0_4, .slice A0_5 l0_5.length c0_5] 25 (0, 0)) (bk BK109) hg (Kd.R_ne HO113.out BK109.out (by decide)))
    replace BK110 := as_ (blk_grown (g := gb110) (o := .cells #[.int .i64 0, .int .i64 0, .int .i64 0, .string (⟨#[]⟩ : ByteArray), .slice none 0 0, .slice none 0 0] 25 (0, 0)) (bk BK110) hg (Kd.R_ne HO113.out BK110.out (by decide)))
    replace HB := as_ (hb)
    clear HO113
    clear ho hb hg hat
    refine hK.out _ _ ⟨(blk_cell BK109.out 0).trans rfl, (blk_cell BK109.out 1).trans rfl, (blk_cell BK109.out 2).trans rfl, (blk_cell BK109.out 3).trans rfl, (blk_cell BK109.out 4).trans rfl, (blk_cell BK109.out 5).trans rfl⟩ (fun hHeld => ?_)
    clear hK K
    refine nm_ (some 25) (h := ?_)
    refine two_ (i := 24) (j := 26) (Ni := some 28) (Nj := some 3) (mr [25, 3]) (mr [24, 2, 1, 1]) rfl rfl rfl rfl (two_of HT_.out (by kernel_rfl)) (by decide) (by decide) (fun K hK => ?_) (fun K hK => ?_)
    ·skip
     refine goes_ Tryz.func31 (by kernel_rfl) rfl #[.slice A0_5 l0_5.length c0_5] (by rfl) rfl rfl aO ?_
     with_reducible refine (withylaw05_Cut.calls k _ _ l0_5 t118 _ ?side1 ?side2 A10.out).mono ?_
     (case side1 => repeat (first | exact (Kd.C_below HR0_5.out HB.out) | (with_reducible refine Kd.C_alloc ?_ _) | (with_reducible refine Kd.C_drewN ?_ _) | (with_reducible refine Kd.C_drew ?_)))
     (case side2 => exact HC0_5.out)
     rintro e w26 ⟨v119, rfl, ho0, hb⟩
     refine ⟨_, rfl, ?_⟩
     have HO120 := as_ (Kd.R_lower ho0 (below_size bA))
     replace HO117 := as_ (Kd.R_below (rD HO117) hb)
     replace BK109 := bb BK109 hb
     replace BK110 := as_ (blk_below (g := gb110) (o := .cells #[.int .i64 0, .int .i64 0, .int .i64 0, .string (⟨#[]⟩ : ByteArray), .slice none 0 0, .slice none 0 0] 25 (0, 0)) (bk BK110) hb)
     replace HB := as_ (below_step bA hb)
     (try clear hb)
     (try clear hb2)
     (try clear hk)
     (try clear hi)
     (try clear ho0)
     obtain ⟨Ao27, co27, eo27⟩ := Kd.R_slice HO120.out
     (first | subst eo27 | (injection eo27 with f1_ f2_ f3_; have f4_ := f1_.symm; have f5_ := f3_.symm; clear f1_ f2_ f3_; subst f4_; subst f5_))
     obtain ⟨Ao28, co28, eo28⟩ := Kd.R_slice HO117.out
     (first | subst eo28 | (injection eo28 with f1_ f2_ f3_; have f4_ := f1_.symm; have f5_ := f3_.symm; clear f1_ f2_ f3_; subst f4_; subst f5_))
     refine hK.out _ _ ⟨(blk_cell BK109.out 0).trans rfl, (blk_cell BK109.out 1).trans rfl, (blk_cell BK109.out 2).trans rfl, (blk_cell BK109.out 3).trans rfl, (blk_cell BK109.out 4).trans rfl, (blk_cell BK109.out 5).trans rfl⟩ (fun hHeld => ?_)
     clear hK K
     refine nm_ (some 28) (h := ?_)
     refine pu_ 25 (some 29) (mr [26, 2]) rfl rfl (h := ?_)
     refine one_ (i := 26) (N := some 3) (mr [27, 1]) rfl rfl (one_of HT_.out (by kernel_rfl)) (by decide) (fun K hK => ?_)
     refine box_step ?hg (N := 3) ?hd (cs := #[.int .i64 0, .int .i64 0, .int .i64 0, .string (⟨#[]⟩ : ByteArray), .slice none 0 0, .slice none 0 0]) (t := 25) ?hr ?_; (case hd => rfl); (case hg => rfl); (case hr => first | (go_simp; done) | (go_simp; rfl))
     intro gb121 hg w29 hbox hb
     have BK121 := as_ (hbox)
     have GW121 := gw hg bA
     have GE121 := gw hg bA
     have NB109_121 := nl BK109 hg
     have NB121_109 := ng BK109 hg
     have NB110_121 := as_ ((by rw [hg]; exact Nat.ne_of_lt (blk_lt (g := gb110) (o := .cells #[.int .i64 0, .int .i64 0, .int .i64 0, .string (⟨#[]⟩ : ByteArray), .slice none 0 0, .slice none 0 0] 25 (0, 0)) (bk BK110)) : gb110 ≠ gb121))
     have NB121_110 := as_ ((by rw [hg]; exact Nat.ne_of_gt (blk_lt (g := gb110) (o := .cells #[.int .i64 0, .int .i64 0, .int .i64 0, .string (⟨#[]⟩ : ByteArray), .slice none 0 0, .slice none 0 0] 25 (0, 0)) (bk BK110)) : gb121 ≠ gb110))
     replace HO117 := as_ (Kd.R_below (rD HO117) hb)
     replace HO120 := as_ (Kd.R_below (rD HO120) hb)
     replace BK109 := bb BK109 hb
     replace BK110 := as_ (blk_below (g := gb110) (o := .cells #[.int .i64 0, .int .i64 0, .int .i64 0, .string (⟨#[]⟩ : ByteArray), .slice none 0 0, .slice none 0 0] 25 (0, 0)) (bk BK110) hb)
     replace HB := as_ (below_step bA hb)
     clear hb hbox hg
     refine hK.out _ _ ⟨(blk_cell BK109.out 0).trans rfl, (blk_cell BK109.out 1).trans rfl, (blk_cell BK109.out 2).trans rfl, (blk_cell BK109.out 3).trans rfl, (blk_cell BK109.out 4).trans rfl, (blk_cell BK109.out 5).trans rfl⟩ (fun hHeld => ?_)
     clear hK K
     refine nm_ (some 3) (h := ?_)
     exact norm_ (by simp only [putAll, Act.put, List.setIfInBounds_toArray, List.set_cons_zero, List.set_cons_succ]) (hCont (v112, .slice Ao28 y115.length co28, .slice Ao27 t118.length co27, gb121) _ ⟨hHeld, (rD HO117), (rD HO120), (bk BK109), (bk BK110), (bk BK121), GW121.out, GE121.out, NB109_121.out, NB121_109.out, NB110_121.out, NB121_110.out, bA⟩)
    ·skip
     refine box_step ?hg (N := 3) ?hd (cs := #[.int .i64 0, .int .i64 0, .int .i64 0, .string (⟨#[]⟩ : ByteArray), .slice none 0 0, .slice none 0 0]) (t := 25) ?hr ?_; (case hd => rfl); (case hg => rfl); (case hr => first | (go_simp; done) | (go_simp; rfl))
     intro gb121 hg w26 hbox hb
     have BK121 := as_ (hbox)
     have GW121 := gw hg bA
     have GE121 := gw hg bA
     have NB109_121 := nl BK109 hg
     have NB121_109 := ng BK109 hg
     have NB110_121 := as_ ((by rw [hg]; exact Nat.ne_of_lt (blk_lt (g := gb110) (o := .cells #[.int .i64 0, .int .i64 0, .int .i64 0, .string (⟨#[]⟩ : ByteArray), .slice none 0 0, .slice none 0 0] 25 (0, 0)) (bk BK110)) : gb110 ≠ gb121))
     have NB121_110 := as_ ((by rw [hg]; exact Nat.ne_of_gt (blk_lt (g := gb110) (o := .cells #[.int .i64 0, .int .i64 0, .int .i64 0, .string (⟨#[]⟩ : ByteArray), .slice none 0 0, .slice none 0 0] 25 (0, 0)) (bk BK110)) : gb121 ≠ gb110))
     replace HO117 := as_ (Kd.R_below (rD HO117) hb)
     replace BK109 := bb BK109 hb
     replace BK110 := as_ (blk_below (g := gb110) (o := .cells #[.int .i64 0, .int .i64 0, .int .i64 0, .string (⟨#[]⟩ : ByteArray), .slice none 0 0, .slice none 0 0] 25 (0, 0)) (bk BK110) hb)
     replace HB := as_ (below_step bA hb)
     clear hb hbox hg
     refine hK.out _ _ ⟨(blk_cell BK109.out 0).trans rfl, (blk_cell BK109.out 1).trans rfl, (blk_cell BK109.out 2).trans rfl, (blk_cell BK109.out 3).trans rfl, (blk_cell BK109.out 4).trans rfl, (blk_cell BK109.out 5).trans rfl⟩ (fun hHeld => ?_)
     clear hK K
     refine nm_ (some 3) (h := ?_)
     refine one_ (i := 24) (N := some 28) (mr [25, 1, 1, 1]) rfl rfl (one_of HT_.out (by kernel_rfl)) (by decide) (fun K hK => ?_)
     refine goes_ Tryz.func31 (by kernel_rfl) rfl #[.slice A0_5 l0_5.length c0_5] (by rfl) rfl rfl aO ?_
     with_reducible refine (withylaw05_Cut.calls k _ _ l0_5 t118 _ ?side1 ?side2 A10.out).mono ?_
     (case side1 => repeat (first | exact (Kd.C_below HR0_5.out HB.out) | (with_reducible refine Kd.C_alloc ?_ _) | (with_reducible refine Kd.C_drewN ?_ _) | (with_reducible refine Kd.C_drew ?_)))
     (case side2 => exact HC0_5.out)
     rintro e w27 ⟨v119, rfl, ho0, hb⟩
     refine ⟨_, rfl, ?_⟩
     have HO120 := as_ (Kd.R_lower ho0 (below_size bA))
     replace HO117 := as_ (Kd.R_below (rD HO117) hb)
     replace BK109 := bb BK109 hb
     replace BK110 := as_ (blk_below (g := gb110) (o := .cells #[.int .i64 0, .int .i64 0, .int .i64 0, .string (⟨#[]⟩ : ByteArray), .slice none 0 0, .slice none 0 0] 25 (0, 0)) (bk BK110) hb)
     replace BK121 := as_ (blk_below (g := gb121) (o := .cells #[.int .i64 0, .int .i64 0, .int .i64 0, .string (⟨#[]⟩ : ByteArray), .slice none 0 0, .slice none 0 0] 25 (0, 0)) (bk BK121) hb)
     replace HB := as_ (below_step bA hb)
     (try clear hb)
     (try clear hb2)
     (try clear hk)
     (try clear hi)
     (try clear ho0)
     obtain ⟨Ao28, co28, eo28⟩ := Kd.R_slice HO120.out
     (first | subst eo28 | (injection eo28 with f1_ f2_ f3_; have f4_ := f1_.symm; have f5_ := f3_.symm; clear f1_ f2_ f3_; subst f4_; subst f5_))
     obtain ⟨Ao29, co29, eo29⟩ := Kd.R_slice HO117.out
     (first | subst eo29 | (injection eo29 with f1_ f2_ f3_; have f4_ := f1_.symm; have f5_ := f3_.symm; clear f1_ f2_ f3_; subst f4_; subst f5_))
     refine hK.out _ _ ⟨(blk_cell BK109.out 0).trans rfl, (blk_cell BK109.out 1).trans rfl, (blk_cell BK109.out 2).trans rfl, (blk_cell BK109.out 3).trans rfl, (blk_cell BK109.out 4).trans rfl, (blk_cell BK109.out 5).trans rfl⟩ (fun hHeld => ?_)
     clear hK K
     refine nm_ (some 28) (h := ?_)
     refine pu_ 25 (some 29) (mr [27, 1]) rfl rfl (h := ?_)
     exact norm_ (by simp only [putAll, Act.put, List.setIfInBounds_toArray, List.set_cons_zero, List.set_cons_succ]) (hCont (v112, .slice Ao29 y115.length co29, .slice Ao28 t118.length co28, gb121) _ ⟨hHeld, (rD HO117), (rD HO120), (bk BK109), (bk BK110), (bk BK121), GW121.out, GE121.out, NB109_121.out, NB121_109.out, NB110_121.out, NB121_110.out, bA⟩)
   ·skip
    refine box_step ?hg (N := 3) ?hd (cs := #[.int .i64 0, .int .i64 0, .int .i64 0, .string (⟨#[]⟩ : ByteArray), .slice none 0 0, .slice none 0 0]) (t := 25) ?hr ?_; (case hd => rfl); (case hg => rfl); (case hr => first | (go_simp; done) | (go_simp; rfl))
    intro gb121 hg w25 hbox hb
    have BK121 := as_ (hbox)
    have GW121 := gw hg bA
    have GE121 := gw hg bA
    have NB109_121 := nl BK109 hg
    have NB121_109 := ng BK109 hg
    have NB110_121 := as_ ((by rw [hg]; exact Nat.ne_of_lt (blk_lt (g := gb110) (o := .cells #[.int .i64 0, .int .i64 0, .int .i64 0, .string (⟨#[]⟩ : ByteArray), .slice none 0 0, .slice none 0 0] 25 (0, 0)) (bk BK110)) : gb110 ≠ gb121))
    have NB121_110 := as_ ((by rw [hg]; exact Nat.ne_of_gt (blk_lt (g := gb110) (o := .cells #[.int .i64 0, .int .i64 0, .int .i64 0, .string (⟨#[]⟩ : ByteArray), .slice none 0 0, .slice none 0 0] 25 (0, 0)) (bk BK110)) : gb121 ≠ gb110))
    replace HO113 := as_ (Kd.R_below (rD HO113) hb)
    replace BK109 := bb BK109 hb
    replace BK110 := as_ (blk_below (g := gb110) (o := .cells #[.int .i64 0, .int .i64 0, .int .i64 0, .string (⟨#[]⟩ : ByteArray), .slice none 0 0, .slice none 0 0] 25 (0, 0)) (bk BK110) hb)
    replace HB := as_ (below_step bA hb)
    clear hb hbox hg
    refine hK.out _ _ ⟨(blk_cell BK109.out 0).trans rfl, (blk_cell BK109.out 1).trans rfl, (blk_cell BK109.out 2).trans rfl, (blk_cell BK109.out 3).trans rfl, (blk_cell BK109.out 4).trans rfl, (blk_cell BK109.out 5).trans rfl⟩ (fun hHeld => ?_)
    clear hK K
    refine nm_ (some 3) (h := ?_)
    refine one_ (i := 21) (N := some 25) (mr [24, 2, 1, 1]) rfl rfl (one_of HT_.out (by kernel_rfl)) (by decide) (fun K hK => ?_)
    refine Kd.R_append_rows_step (Kd.int .i64) (w0 := w) w.heap.size (by rfl) (.tmp 17) (.tmp 24) 22 3 (.int .i64 0) 8 rfl Tryz.underlying22 info3 rfl (by decide) (by omega) v112 y111 (l0_4.take ((ji6) : Int).toNat) _ _ _ (fun _ => True) (fun _ => False) rfl rfl ?aO ?aR (fun _ _ h => h) (fun _ h => h.elim) ?aF ?aB ?aS ?aL ?_
    (case aR => first | ((have hz_ := Kd.C_below HR114.out HB.out); (rw [show (l0_4.take ((ji6) : Int).toNat).length = (ji6).toNat from (by rw [List.length_take]; have h_ : ((ji6) : Int) ≤ (l0_4.length : Int) := of_decide_eq_true aM; omega)] at hz_); (repeat (first | exact hz_ | (with_reducible refine Kd.C_alloc ?_ _) | (with_reducible refine Kd.C_drewN ?_ _) | (with_reducible refine Kd.C_drew ?_))); done) | (rw [← show (l0_4.take ((ji6) : Int).toNat).length = (ji6).toNat from (by rw [List.length_take]; have h_ : ((ji6) : Int) ≤ (l0_4.length : Int) := of_decide_eq_true aM; omega)]; repeat (first | exact (Kd.C_below HR114.out HB.out) | (with_reducible refine Kd.C_alloc ?_ _) | (with_reducible refine Kd.C_drewN ?_ _) | (with_reducible refine Kd.C_drew ?_))) | (repeat (first | exact (Kd.C_below HR114.out HB.out) | (with_reducible refine Kd.C_alloc ?_ _) | (with_reducible refine Kd.C_drewN ?_ _) | (with_reducible refine Kd.C_drew ?_))))
    (case aB => exact bA)
    (case aF => exact (fun _ _ => trivial))
    (case aO => exact (rD HO113))
    (case aS => exact (below_size bA))
    (case aL => have := LMc9.out; have hlx_ := (show (l0_4.take ((ji6) : Int).toNat).length = (ji6).toNat from (by rw [List.length_take]; have h_ : ((ji6) : Int) ≤ (l0_4.length : Int) := of_decide_eq_true aM; omega)); omega)
    intro v116 w26 ho hb hg hat
    rw [← Ny115.out] at ho
    have HO117 := as_ (ho)
    replace BK109 := as_ (blk_grown (g := gb109) (o := .cells #[.int .i64 a0_0, .int .i64 a0_1, .int .i64 a0_2, .string a0_3, .slice A0_4 l0_4.length c0_4, .slice A0_5 l0_5.length c0_5] 25 (0, 0)) (bk BK109) hg (Kd.R_ne HO113.out BK109.out (by decide)))
    replace BK110 := as_ (blk_grown (g := gb110) (o := .cells #[.int .i64 0, .int .i64 0, .int .i64 0, .string (⟨#[]⟩ : ByteArray), .slice none 0 0, .slice none 0 0] 25 (0, 0)) (bk BK110) hg (Kd.R_ne HO113.out BK110.out (by decide)))
    replace BK121 := as_ (blk_grown (g := gb121) (o := .cells #[.int .i64 0, .int .i64 0, .int .i64 0, .string (⟨#[]⟩ : ByteArray), .slice none 0 0, .slice none 0 0] 25 (0, 0)) (bk BK121) hg (Kd.R_ne HO113.out BK121.out (by decide)))
    replace HB := as_ (hb)
    clear HO113
    clear ho hb hg hat
    refine hK.out _ _ ⟨(blk_cell BK109.out 0).trans rfl, (blk_cell BK109.out 1).trans rfl, (blk_cell BK109.out 2).trans rfl, (blk_cell BK109.out 3).trans rfl, (blk_cell BK109.out 4).trans rfl, (blk_cell BK109.out 5).trans rfl⟩ (fun hHeld => ?_)
    clear hK K
    refine nm_ (some 25) (h := ?_)
    refine one_ (i := 24) (N := some 28) (mr [25, 1, 1, 1]) rfl rfl (one_of HT_.out (by kernel_rfl)) (by decide) (fun K hK => ?_)
    refine goes_ Tryz.func31 (by kernel_rfl) rfl #[.slice A0_5 l0_5.length c0_5] (by rfl) rfl rfl aO ?_
    with_reducible refine (withylaw05_Cut.calls k _ _ l0_5 t118 _ ?side1 ?side2 A10.out).mono ?_
    (case side1 => repeat (first | exact (Kd.C_below HR0_5.out HB.out) | (with_reducible refine Kd.C_alloc ?_ _) | (with_reducible refine Kd.C_drewN ?_ _) | (with_reducible refine Kd.C_drew ?_)))
    (case side2 => exact HC0_5.out)
    rintro e w27 ⟨v119, rfl, ho0, hb⟩
    refine ⟨_, rfl, ?_⟩
    have HO120 := as_ (Kd.R_lower ho0 (below_size bA))
    replace HO117 := as_ (Kd.R_below (rD HO117) hb)
    replace BK109 := bb BK109 hb
    replace BK110 := as_ (blk_below (g := gb110) (o := .cells #[.int .i64 0, .int .i64 0, .int .i64 0, .string (⟨#[]⟩ : ByteArray), .slice none 0 0, .slice none 0 0] 25 (0, 0)) (bk BK110) hb)
    replace BK121 := as_ (blk_below (g := gb121) (o := .cells #[.int .i64 0, .int .i64 0, .int .i64 0, .string (⟨#[]⟩ : ByteArray), .slice none 0 0, .slice none 0 0] 25 (0, 0)) (bk BK121) hb)
    replace HB := as_ (below_step bA hb)
    (try clear hb)
    (try clear hb2)
    (try clear hk)
    (try clear hi)
    (try clear ho0)
    obtain ⟨Ao28, co28, eo28⟩ := Kd.R_slice HO120.out
    (first | subst eo28 | (injection eo28 with f1_ f2_ f3_; have f4_ := f1_.symm; have f5_ := f3_.symm; clear f1_ f2_ f3_; subst f4_; subst f5_))
    obtain ⟨Ao29, co29, eo29⟩ := Kd.R_slice HO117.out
    (first | subst eo29 | (injection eo29 with f1_ f2_ f3_; have f4_ := f1_.symm; have f5_ := f3_.symm; clear f1_ f2_ f3_; subst f4_; subst f5_))
    refine hK.out _ _ ⟨(blk_cell BK109.out 0).trans rfl, (blk_cell BK109.out 1).trans rfl, (blk_cell BK109.out 2).trans rfl, (blk_cell BK109.out 3).trans rfl, (blk_cell BK109.out 4).trans rfl, (blk_cell BK109.out 5).trans rfl⟩ (fun hHeld => ?_)
    clear hK K
    refine nm_ (some 28) (h := ?_)
    refine pu_ 25 (some 29) (mr [27, 1]) rfl rfl (h := ?_)
    exact norm_ (by simp only [putAll, Act.put, List.setIfInBounds_toArray, List.set_cons_zero, List.set_cons_succ]) (hCont (v112, .slice Ao29 y115.length co29, .slice Ao28 t118.length co28, gb121) _ ⟨hHeld, (rD HO117), (rD HO120), (bk BK109), (bk BK110), (bk BK121), GW121.out, GE121.out, NB109_121.out, NB121_109.out, NB110_121.out, NB121_110.out, bA⟩)
  ·skip
   refine box_step ?hg (N := 3) ?hd (cs := #[.int .i64 0, .int .i64 0, .int .i64 0, .string (⟨#[]⟩ : ByteArray), .slice none 0 0, .slice none 0 0]) (t := 25) ?hr ?_; (case hd => rfl); (case hg => rfl); (case hr => first | (go_simp; done) | (go_simp; rfl))
   intro gb121 hg w23 hbox hb
   have BK121 := as_ (hbox)
   have GW121 := gw hg bA
   have GE121 := gw hg bA
   have NB109_121 := nl BK109 hg
   have NB121_109 := ng BK109 hg
   have NB110_121 := as_ ((by rw [hg]; exact Nat.ne_of_lt (blk_lt (g := gb110) (o := .cells #[.int .i64 0, .int .i64 0, .int .i64 0, .string (⟨#[]⟩ : ByteArray), .slice none 0 0, .slice none 0 0] 25 (0, 0)) (bk BK110)) : gb110 ≠ gb121))
   have NB121_110 := as_ ((by rw [hg]; exact Nat.ne_of_gt (blk_lt (g := gb110) (o := .cells #[.int .i64 0, .int .i64 0, .int .i64 0, .string (⟨#[]⟩ : ByteArray), .slice none 0 0, .slice none 0 0] 25 (0, 0)) (bk BK110)) : gb121 ≠ gb110))
   replace BK109 := bb BK109 hb
   replace BK110 := as_ (blk_below (g := gb110) (o := .cells #[.int .i64 0, .int .i64 0, .int .i64 0, .string (⟨#[]⟩ : ByteArray), .slice none 0 0, .slice none 0 0] 25 (0, 0)) (bk BK110) hb)
   replace HB := as_ (below_step bA hb)
   clear hb hbox hg
   refine hK.out _ _ ⟨(blk_cell BK109.out 0).trans rfl, (blk_cell BK109.out 1).trans rfl, (blk_cell BK109.out 2).trans rfl, (blk_cell BK109.out 3).trans rfl, (blk_cell BK109.out 4).trans rfl, (blk_cell BK109.out 5).trans rfl⟩ (fun hHeld => ?_)
   clear hK K
   refine nm_ (some 3) (h := ?_)
   refine one_ (i := 13) (N := some 17) (mr [21, 1, 2, 2, 1, 1]) rfl rfl (one_of HT_.out (by kernel_rfl)) (by decide) (fun K hK => ?_)
   refine Kd.R_lit_step (Kd.int .i64) _ 3 ?hg (N := 17) ?hd (xs := ([] : List Int)) (inner := []) (ok := fun _ => True) (okp := fun _ => True) ?hr ?hp (fun _ hk => hk) trivial (Below.refl _ _) (Nat.le_refl _) (by simp) ?_; (case hd => rfl); (case hg => rfl); (case hr => first | (go_simp; done) | (go_simp; rfl)); (case hp => exact (Reps.none _ _))
   intro v112 w24 ho25 hb hg_ hnew_
   clear hg_ hnew_
   (first | rw [← Ny111.out] at ho25 | (simp only [Int.reduceToNat] at ho25; rw [← Ny111.out] at ho25))
   have HO113 := as_ (Kd.R_lower ho25 (below_size bA))
   replace BK109 := bb BK109 hb
   replace BK110 := as_ (blk_below (g := gb110) (o := .cells #[.int .i64 0, .int .i64 0, .int .i64 0, .string (⟨#[]⟩ : ByteArray), .slice none 0 0, .slice none 0 0] 25 (0, 0)) (bk BK110) hb)
   replace BK121 := as_ (blk_below (g := gb121) (o := .cells #[.int .i64 0, .int .i64 0, .int .i64 0, .string (⟨#[]⟩ : ByteArray), .slice none 0 0, .slice none 0 0] 25 (0, 0)) (bk BK121) hb)
   replace HB := as_ (below_step bA hb)
   clear hb ho25
   refine hK.out _ _ ⟨(blk_cell BK109.out 0).trans rfl, (blk_cell BK109.out 1).trans rfl, (blk_cell BK109.out 2).trans rfl, (blk_cell BK109.out 3).trans rfl, (blk_cell BK109.out 4).trans rfl, (blk_cell BK109.out 5).trans rfl⟩ (fun hHeld => ?_)
   clear hK K
   refine nm_ (some 17) (h := ?_)
   refine one_ (i := 21) (N := some 25) (mr [24, 2, 1, 1]) rfl rfl (one_of HT_.out (by kernel_rfl)) (by decide) (fun K hK => ?_)
   refine Kd.R_append_rows_step (Kd.int .i64) (w0 := w) w.heap.size (by rfl) (.tmp 17) (.tmp 24) 22 3 (.int .i64 0) 8 rfl Tryz.underlying22 info3 rfl (by decide) (by omega) v112 y111 (l0_4.take ((ji6) : Int).toNat) _ _ _ (fun _ => True) (fun _ => False) rfl rfl ?aO ?aR (fun _ _ h => h) (fun _ h => h.elim) ?aF ?aB ?aS ?aL ?_
   (case aR => first | ((have hz_ := Kd.C_below HR114.out HB.out); (rw [show (l0_4.take ((ji6) : Int).toNat).length = (ji6).toNat from (by rw [List.length_take]; have h_ : ((ji6) : Int) ≤ (l0_4.length : Int) := of_decide_eq_true aM; omega)] at hz_); (repeat (first | exact hz_ | (with_reducible refine Kd.C_alloc ?_ _) | (with_reducible refine Kd.C_drewN ?_ _) | (with_reducible refine Kd.C_drew ?_))); done) | (rw [← show (l0_4.take ((ji6) : Int).toNat).length = (ji6).toNat from (by rw [List.length_take]; have h_ : ((ji6) : Int) ≤ (l0_4.length : Int) := of_decide_eq_true aM; omega)]; repeat (first | exact (Kd.C_below HR114.out HB.out) | (with_reducible refine Kd.C_alloc ?_ _) | (with_reducible refine Kd.C_drewN ?_ _) | (with_reducible refine Kd.C_drew ?_))) | (repeat (first | exact (Kd.C_below HR114.out HB.out) | (with_reducible refine Kd.C_alloc ?_ _) | (with_reducible refine Kd.C_drewN ?_ _) | (with_reducible refine Kd.C_drew ?_))))
   (case aB => exact bA)
   (case aF => exact (fun _ _ => trivial))
   (case aO => exact (rD HO113))
   (case aS => exact (below_size bA))
   (case aL => have := LMc9.out; have hlx_ := (show (l0_4.take ((ji6) : Int).toNat).length = (ji6).toNat from (by rw [List.length_take]; have h_ : ((ji6) : Int) ≤ (l0_4.length : Int) := of_decide_eq_true aM; omega)); omega)
   intro v116 w26 ho hb hg hat
   rw [← Ny115.out] at ho
   have HO117 := as_ (ho)
   replace BK109 := as_ (blk_grown (g := gb109) (o := .cells #[.int .i64 a0_0, .int .i64 a0_1, .int .i64 a0_2, .string a0_3, .slice A0_4 l0_4.length c0_4, .slice A0_5 l0_5.length c0_5] 25 (0, 0)) (bk BK109) hg (Kd.R_ne HO113.out BK109.out (by decide)))
   replace BK110 := as_ (blk_grown (g := gb110) (o := .cells #[.int .i64 0, .int .i64 0, .int .i64 0, .string (⟨#[]⟩ : ByteArray), .slice none 0 0, .slice none 0 0] 25 (0, 0)) (bk BK110) hg (Kd.R_ne HO113.out BK110.out (by decide)))
   replace BK121 := as_ (blk_grown (g := gb121) (o := .cells #[.int .i64 0, .int .i64 0, .int .i64 0, .string (⟨#[]⟩ : ByteArray), .slice none 0 0, .slice none 0 0] 25 (0, 0)) (bk BK121) hg (Kd.R_ne HO113.out BK121.out (by decide)))
   replace HB := as_ (hb)
   clear HO113
   clear ho hb hg hat
   refine hK.out _ _ ⟨(blk_cell BK109.out 0).trans rfl, (blk_cell BK109.out 1).trans rfl, (blk_cell BK109.out 2).trans rfl, (blk_cell BK109.out 3).trans rfl, (blk_cell BK109.out 4).trans rfl, (blk_cell BK109.out 5).trans rfl⟩ (fun hHeld => ?_)
   clear hK K
   refine nm_ (some 25) (h := ?_)
   refine one_ (i := 24) (N := some 28) (mr [25, 1, 1, 1]) rfl rfl (one_of HT_.out (by kernel_rfl)) (by decide) (fun K hK => ?_)
   refine goes_ Tryz.func31 (by kernel_rfl) rfl #[.slice A0_5 l0_5.length c0_5] (by rfl) rfl rfl aO ?_
   with_reducible refine (withylaw05_Cut.calls k _ _ l0_5 t118 _ ?side1 ?side2 A10.out).mono ?_
   (case side1 => repeat (first | exact (Kd.C_below HR0_5.out HB.out) | (with_reducible refine Kd.C_alloc ?_ _) | (with_reducible refine Kd.C_drewN ?_ _) | (with_reducible refine Kd.C_drew ?_)))
   (case side2 => exact HC0_5.out)
   rintro e w27 ⟨v119, rfl, ho0, hb⟩
   refine ⟨_, rfl, ?_⟩
   have HO120 := as_ (Kd.R_lower ho0 (below_size bA))
   replace HO117 := as_ (Kd.R_below (rD HO117) hb)
   replace BK109 := bb BK109 hb
   replace BK110 := as_ (blk_below (g := gb110) (o := .cells #[.int .i64 0, .int .i64 0, .int .i64 0, .string (⟨#[]⟩ : ByteArray), .slice none 0 0, .slice none 0 0] 25 (0, 0)) (bk BK110) hb)
   replace BK121 := as_ (blk_below (g := gb121) (o := .cells #[.int .i64 0, .int .i64 0, .int .i64 0, .string (⟨#[]⟩ : ByteArray), .slice none 0 0, .slice none 0 0] 25 (0, 0)) (bk BK121) hb)
   replace HB := as_ (below_step bA hb)
   (try clear hb)
   (try clear hb2)
   (try clear hk)
   (try clear hi)
   (try clear ho0)
   obtain ⟨Ao28, co28, eo28⟩ := Kd.R_slice HO120.out
   (first | subst eo28 | (injection eo28 with f1_ f2_ f3_; have f4_ := f1_.symm; have f5_ := f3_.symm; clear f1_ f2_ f3_; subst f4_; subst f5_))
   obtain ⟨Ao29, co29, eo29⟩ := Kd.R_slice HO117.out
   (first | subst eo29 | (injection eo29 with f1_ f2_ f3_; have f4_ := f1_.symm; have f5_ := f3_.symm; clear f1_ f2_ f3_; subst f4_; subst f5_))
   refine hK.out _ _ ⟨(blk_cell BK109.out 0).trans rfl, (blk_cell BK109.out 1).trans rfl, (blk_cell BK109.out 2).trans rfl, (blk_cell BK109.out 3).trans rfl, (blk_cell BK109.out 4).trans rfl, (blk_cell BK109.out 5).trans rfl⟩ (fun hHeld => ?_)
   clear hK K
   refine nm_ (some 28) (h := ?_)
   refine pu_ 25 (some 29) (mr [27, 1]) rfl rfl (h := ?_)
   exact norm_ (by simp only [putAll, Act.put, List.setIfInBounds_toArray, List.set_cons_zero, List.set_cons_succ]) (hCont (v112, .slice Ao29 y115.length co29, .slice Ao28 t118.length co28, gb121) _ ⟨hHeld, (rD HO117), (rD HO120), (bk BK109), (bk BK110), (bk BK121), GW121.out, GE121.out, NB109_121.out, NB121_109.out, NB110_121.out, NB121_110.out, bA⟩)
 rintro ⟨v112, v116, v119, gb121⟩ w30 ⟨hS_, h0_, h1_, h2_, h3_, h4_, h5_, h6_, h7_, h8_, h9_, h10_, h11_⟩
 have n0_ : Aside0 (Kd.R (Kd.int .i64) 3 w30 w.heap.size (fun _ => True) v116 y115) := ⟨h0_⟩
 have n1_ : Aside0 (Kd.R Kd.string 9 w30 w.heap.size (fun _ => True) v119 t118) := ⟨h1_⟩
 have n2_ : Aside0 (w30.heap[gb109]? = some (.cells #[.int .i64 a0_0, .int .i64 a0_1, .int .i64 a0_2, .string a0_3, .slice A0_4 l0_4.length c0_4, .slice A0_5 l0_5.length c0_5] 25 (0, 0))) := ⟨h2_⟩
 have n3_ : Aside0 (w30.heap[gb110]? = some (.cells #[.int .i64 0, .int .i64 0, .int .i64 0, .string (⟨#[]⟩ : ByteArray), .slice none 0 0, .slice none 0 0] 25 (0, 0))) := ⟨h3_⟩
 have n4_ : Aside0 (w30.heap[gb121]? = some (.cells #[.int .i64 0, .int .i64 0, .int .i64 0, .string (⟨#[]⟩ : ByteArray), .slice none 0 0, .slice none 0 0] 25 (0, 0))) := ⟨h4_⟩
 have n5_ : Aside0 (w.heap.size ≤ gb121) := ⟨h5_⟩
 have n6_ : Aside0 (w.heap.size ≤ gb121) := ⟨h6_⟩
 have n7_ : Aside0 (gb109 ≠ gb121) := ⟨h7_⟩
 have n8_ : Aside0 (gb121 ≠ gb109) := ⟨h8_⟩
 have n9_ : Aside0 (gb110 ≠ gb121) := ⟨h9_⟩
 have n10_ : Aside0 (gb121 ≠ gb110) := ⟨h10_⟩
 have n11_ : Aside0 (Below w.heap.size w w30) := ⟨h11_⟩
 clear BK109
 clear BK110
 clear HB
 clear h0_ h1_ h2_ h3_ h4_ h5_ h6_ h7_ h8_ h9_ h10_ h11_
 have HO117 := n0_
 have HO120 := n1_
 have BK109 := n2_
 have BK110 := n3_
 have BK121 := n4_
 have GW121 := n5_
 have GE121 := n6_
 have NB109_121 := n7_
 have NB121_109 := n8_
 have NB110_121 := n9_
 have NB121_110 := n10_
 have HB := n11_
 clear n0_ n1_ n2_ n3_ n4_ n5_ n6_ n7_ n8_ n9_ n10_ n11_
 have hHeld : w30.cell? ⟨gb109, 0, none⟩ = some (.int .i64 a0_0) ∧ w30.cell? ⟨gb109, 1, none⟩ = some (.int .i64 a0_1) ∧ w30.cell? ⟨gb109, 2, none⟩ = some (.int .i64 a0_2) ∧ w30.cell? ⟨gb109, 3, none⟩ = some (.string a0_3) ∧ w30.cell? ⟨gb109, 4, none⟩ = some (.slice A0_4 l0_4.length c0_4) ∧ w30.cell? ⟨gb109, 5, none⟩ = some (.slice A0_5 l0_5.length c0_5) := hS_
 obtain ⟨Ao31, co31, eo31⟩ := Kd.R_slice HO120.out
 (first | subst eo31 | (injection eo31 with f1_ f2_ f3_; have f4_ := f1_.symm; have f5_ := f3_.symm; clear f1_ f2_ f3_; subst f4_; subst f5_))
 obtain ⟨Ao32, co32, eo32⟩ := Kd.R_slice HO117.out
 (first | subst eo32 | (injection eo32 with f1_ f2_ f3_; have f4_ := f1_.symm; have f5_ := f3_.symm; clear f1_ f2_ f3_; subst f4_; subst f5_))
 refine norm_ (a' := ?_) ?_ ?_
 rotate_left
 ·simp only [putAll, Act.put, List.setIfInBounds_toArray, List.set_cons_zero, List.set_cons_succ]
  rfl
 refine one_ (i := 27) (N := none) (mr [28]) rfl rfl (one_of HT_.out (by kernel_rfl)) (by decide) (fun K hK => ?_)
 have hs33 : w30.cell? ⟨gb121, 0, none⟩ = some (.int .i64 0) := (blk_cell BK121.out 0).trans rfl
 have hfs33 := blk_frozen BK121.out 0
 have hns33_0 := NB109_121.out
 have hns33_1 := NB110_121.out
 have hms33_0 := NB121_109.out
 have hms33_1 := NB121_110.out
 have hs34 : w30.cell? ⟨gb121, 1, none⟩ = some (.int .i64 0) := (blk_cell BK121.out 1).trans rfl
 have hfs34 := blk_frozen BK121.out 1
 have hns34_0 := NB109_121.out
 have hns34_1 := NB110_121.out
 have hms34_0 := NB121_109.out
 have hms34_1 := NB121_110.out
 have hs35 : w30.cell? ⟨gb121, 2, none⟩ = some (.int .i64 0) := (blk_cell BK121.out 2).trans rfl
 have hfs35 := blk_frozen BK121.out 2
 have hns35_0 := NB109_121.out
 have hns35_1 := NB110_121.out
 have hms35_0 := NB121_109.out
 have hms35_1 := NB121_110.out
 have hs36 : w30.cell? ⟨gb121, 3, none⟩ = some (.string (⟨#[]⟩ : ByteArray)) := (blk_cell BK121.out 3).trans rfl
 have hfs36 := blk_frozen BK121.out 3
 have hns36_0 := NB109_121.out
 have hns36_1 := NB110_121.out
 have hms36_0 := NB121_109.out
 have hms36_1 := NB121_110.out
 have hs37 : w30.cell? ⟨gb121, 4, none⟩ = some (.slice none 0 0) := (blk_cell BK121.out 4).trans rfl
 have hfs37 := blk_frozen BK121.out 4
 have hns37_0 := NB109_121.out
 have hns37_1 := NB110_121.out
 have hms37_0 := NB121_109.out
 have hms37_1 := NB121_110.out
 have hs38 : w30.cell? ⟨gb121, 5, none⟩ = some (.slice none 0 0) := (blk_cell BK121.out 5).trans rfl
 have hfs38 := blk_frozen BK121.out 5
 have hns38_0 := NB109_121.out
 have hns38_1 := NB110_121.out
 have hms38_0 := NB121_109.out
 have hms38_1 := NB121_110.out
 refine skip_ (w1 := ?_) (by rfl) rfl ?_ ?_
 rotate_left
 ·go_simp
  rfl
 refine hK.out _ _ ⟨((cell_far (p := ⟨gb121, _, none⟩) NB109_121.out _).trans (((cell_far (p := ⟨gb121, _, none⟩) NB109_121.out _).trans (((cell_far (p := ⟨gb121, _, none⟩) NB109_121.out _).trans (((cell_far (p := ⟨gb121, _, none⟩) NB109_121.out _).trans (((cell_far (p := ⟨gb121, _, none⟩) NB109_121.out _).trans (((cell_far (p := ⟨gb121, _, none⟩) NB109_121.out _).trans (hHeld.1)))))))))))), ((cell_far (p := ⟨gb121, _, none⟩) NB109_121.out _).trans (((cell_far (p := ⟨gb121, _, none⟩) NB109_121.out _).trans (((cell_far (p := ⟨gb121, _, none⟩) NB109_121.out _).trans (((cell_far (p := ⟨gb121, _, none⟩) NB109_121.out _).trans (((cell_far (p := ⟨gb121, _, none⟩) NB109_121.out _).trans (((cell_far (p := ⟨gb121, _, none⟩) NB109_121.out _).trans (hHeld.2.1)))))))))))), ((cell_far (p := ⟨gb121, _, none⟩) NB109_121.out _).trans (((cell_far (p := ⟨gb121, _, none⟩) NB109_121.out _).trans (((cell_far (p := ⟨gb121, _, none⟩) NB109_121.out _).trans (((cell_far (p := ⟨gb121, _, none⟩) NB109_121.out _).trans (((cell_far (p := ⟨gb121, _, none⟩) NB109_121.out _).trans (((cell_far (p := ⟨gb121, _, none⟩) NB109_121.out _).trans (hHeld.2.2.1)))))))))))), ((cell_far (p := ⟨gb121, _, none⟩) NB109_121.out _).trans (((cell_far (p := ⟨gb121, _, none⟩) NB109_121.out _).trans (((cell_far (p := ⟨gb121, _, none⟩) NB109_121.out _).trans (((cell_far (p := ⟨gb121, _, none⟩) NB109_121.out _).trans (((cell_far (p := ⟨gb121, _, none⟩) NB109_121.out _).trans (((cell_far (p := ⟨gb121, _, none⟩) NB109_121.out _).trans (hHeld.2.2.2.1)))))))))))), ((cell_far (p := ⟨gb121, _, none⟩) NB109_121.out _).trans (((cell_far (p := ⟨gb121, _, none⟩) NB109_121.out _).trans (((cell_far (p := ⟨gb121, _, none⟩) NB109_121.out _).trans (((cell_far (p := ⟨gb121, _, none⟩) NB109_121.out _).trans (((cell_far (p := ⟨gb121, _, none⟩) NB109_121.out _).trans (((cell_far (p := ⟨gb121, _, none⟩) NB109_121.out _).trans (hHeld.2.2.2.2.1)))))))))))), ((cell_far (p := ⟨gb121, _, none⟩) NB109_121.out _).trans (((cell_far (p := ⟨gb121, _, none⟩) NB109_121.out _).trans (((cell_far (p := ⟨gb121, _, none⟩) NB109_121.out _).trans (((cell_far (p := ⟨gb121, _, none⟩) NB109_121.out _).trans (((cell_far (p := ⟨gb121, _, none⟩) NB109_121.out _).trans (((cell_far (p := ⟨gb121, _, none⟩) NB109_121.out _).trans (hHeld.2.2.2.2.2))))))))))))⟩ (fun hHeld => ?_)
 clear hK K
 refine done_ (done_of HT_.out (by kernel_rfl)) ?_
 have hnb39 := NB109_110.out
 have hnc39 := NB110_109.out
 have hnb40 := NB109_121.out
 have hnc40 := NB121_109.out
 obtain ⟨hcz41_0, hcz41_1, hcz41_2, hcz41_3, hcz41_4, hcz41_5⟩ := zc6 BK109
 obtain ⟨hfz41_0, hfz41_1, hfz41_2, hfz41_3, hfz41_4, hfz41_5⟩ := zf6 BK109
 try go_wp2
 have n0_ : Aside0 (Kd.R (Kd.int .i64) 3 ((((((w30.setCell ⟨gb121, 0, none⟩ (.int .i64 a0_0)).setCell ⟨gb121, 1, none⟩ (.int .i64 a0_1)).setCell ⟨gb121, 2, none⟩ (.int .i64 a0_2)).setCell ⟨gb121, 3, none⟩ (.string js5)).setCell ⟨gb121, 4, none⟩ (.slice Ao32 y115.length co32)).setCell ⟨gb121, 5, none⟩ (.slice Ao31 t118.length co31)) w.heap.size (fun _ => True) (.slice Ao32 y115.length co32) y115) := ⟨by (with_reducible repeat (first | apply Kd.R_alloc | apply Kd.R_drewN | apply Kd.R_drew)); exact Kd.R_mono (Kd.R_far (p := ⟨gb121, 5, none⟩) (Kd.R_far (p := ⟨gb121, 4, none⟩) (Kd.R_far (p := ⟨gb121, 3, none⟩) (Kd.R_far (p := ⟨gb121, 2, none⟩) (Kd.R_far (p := ⟨gb121, 1, none⟩) (Kd.R_far (p := ⟨gb121, 0, none⟩) (Kd.R_types HO117.out BK121.out (by decide)) (fun _ hk => hk.2) (.int .i64 a0_0)) (fun _ hk => hk.2) (.int .i64 a0_1)) (fun _ hk => hk.2) (.int .i64 a0_2)) (fun _ hk => hk.2) (.string js5)) (fun _ hk => hk.2) (.slice Ao32 y115.length co32)) (fun _ hk => hk.2) (.slice Ao31 t118.length co31)) (fun _ hk => trivial)⟩
 have n1_ : Aside0 (Kd.R Kd.string 9 ((((((w30.setCell ⟨gb121, 0, none⟩ (.int .i64 a0_0)).setCell ⟨gb121, 1, none⟩ (.int .i64 a0_1)).setCell ⟨gb121, 2, none⟩ (.int .i64 a0_2)).setCell ⟨gb121, 3, none⟩ (.string js5)).setCell ⟨gb121, 4, none⟩ (.slice Ao32 y115.length co32)).setCell ⟨gb121, 5, none⟩ (.slice Ao31 t118.length co31)) w.heap.size (fun _ => True) (.slice Ao31 t118.length co31) t118) := ⟨by (with_reducible repeat (first | apply Kd.R_alloc | apply Kd.R_drewN | apply Kd.R_drew)); exact Kd.R_mono (Kd.R_far (p := ⟨gb121, 5, none⟩) (Kd.R_far (p := ⟨gb121, 4, none⟩) (Kd.R_far (p := ⟨gb121, 3, none⟩) (Kd.R_far (p := ⟨gb121, 2, none⟩) (Kd.R_far (p := ⟨gb121, 1, none⟩) (Kd.R_far (p := ⟨gb121, 0, none⟩) (Kd.R_types HO120.out BK121.out (by decide)) (fun _ hk => hk.2) (.int .i64 a0_0)) (fun _ hk => hk.2) (.int .i64 a0_1)) (fun _ hk => hk.2) (.int .i64 a0_2)) (fun _ hk => hk.2) (.string js5)) (fun _ hk => hk.2) (.slice Ao32 y115.length co32)) (fun _ hk => hk.2) (.slice Ao31 t118.length co31)) (fun _ hk => trivial)⟩
 have n2_ : Aside0 (((((((w30.setCell ⟨gb121, 0, none⟩ (.int .i64 a0_0)).setCell ⟨gb121, 1, none⟩ (.int .i64 a0_1)).setCell ⟨gb121, 2, none⟩ (.int .i64 a0_2)).setCell ⟨gb121, 3, none⟩ (.string js5)).setCell ⟨gb121, 4, none⟩ (.slice Ao32 y115.length co32)).setCell ⟨gb121, 5, none⟩ (.slice Ao31 t118.length co31)).heap[gb109]? = some (.cells #[.int .i64 a0_0, .int .i64 a0_1, .int .i64 a0_2, .string a0_3, .slice A0_4 l0_4.length c0_4, .slice A0_5 l0_5.length c0_5] 25 (0, 0))) := ⟨by refine bx ?_; refine blk_far ?_ NB109_121.out _; refine bx ?_; refine blk_far ?_ NB109_121.out _; refine bx ?_; refine blk_far ?_ NB109_121.out _; refine bx ?_; refine blk_far ?_ NB109_121.out _; refine bx ?_; refine blk_far ?_ NB109_121.out _; refine bx ?_; refine blk_far ?_ NB109_121.out _; refine bx ?_; exact BK109.out⟩
 have n3_ : Aside0 (((((((w30.setCell ⟨gb121, 0, none⟩ (.int .i64 a0_0)).setCell ⟨gb121, 1, none⟩ (.int .i64 a0_1)).setCell ⟨gb121, 2, none⟩ (.int .i64 a0_2)).setCell ⟨gb121, 3, none⟩ (.string js5)).setCell ⟨gb121, 4, none⟩ (.slice Ao32 y115.length co32)).setCell ⟨gb121, 5, none⟩ (.slice Ao31 t118.length co31)).heap[gb110]? = some (.cells #[.int .i64 0, .int .i64 0, .int .i64 0, .string (⟨#[]⟩ : ByteArray), .slice none 0 0, .slice none 0 0] 25 (0, 0))) := ⟨by refine bx ?_; refine blk_far ?_ NB110_121.out _; refine bx ?_; refine blk_far ?_ NB110_121.out _; refine bx ?_; refine blk_far ?_ NB110_121.out _; refine bx ?_; refine blk_far ?_ NB110_121.out _; refine bx ?_; refine blk_far ?_ NB110_121.out _; refine bx ?_; refine blk_far ?_ NB110_121.out _; refine bx ?_; exact BK110.out⟩
 have n4_ : Aside0 (((((((w30.setCell ⟨gb121, 0, none⟩ (.int .i64 a0_0)).setCell ⟨gb121, 1, none⟩ (.int .i64 a0_1)).setCell ⟨gb121, 2, none⟩ (.int .i64 a0_2)).setCell ⟨gb121, 3, none⟩ (.string js5)).setCell ⟨gb121, 4, none⟩ (.slice Ao32 y115.length co32)).setCell ⟨gb121, 5, none⟩ (.slice Ao31 t118.length co31)).heap[gb121]? = some (.cells #[.int .i64 a0_0, .int .i64 a0_1, .int .i64 a0_2, .string js5, .slice Ao32 y115.length co32, .slice Ao31 t118.length co31] 25 (0, 0))) := ⟨by refine bx ?_; refine blk_put (cs := #[.int .i64 a0_0, .int .i64 a0_1, .int .i64 a0_2, .string js5, .slice Ao32 y115.length co32, .slice none 0 0]) ?_ 5 _ rfl; refine bx ?_; refine blk_put (cs := #[.int .i64 a0_0, .int .i64 a0_1, .int .i64 a0_2, .string js5, .slice none 0 0, .slice none 0 0]) ?_ 4 _ rfl; refine bx ?_; refine blk_put (cs := #[.int .i64 a0_0, .int .i64 a0_1, .int .i64 a0_2, .string (⟨#[]⟩ : ByteArray), .slice none 0 0, .slice none 0 0]) ?_ 3 _ rfl; refine bx ?_; refine blk_put (cs := #[.int .i64 a0_0, .int .i64 a0_1, .int .i64 0, .string (⟨#[]⟩ : ByteArray), .slice none 0 0, .slice none 0 0]) ?_ 2 _ rfl; refine bx ?_; refine blk_put (cs := #[.int .i64 a0_0, .int .i64 0, .int .i64 0, .string (⟨#[]⟩ : ByteArray), .slice none 0 0, .slice none 0 0]) ?_ 1 _ rfl; refine bx ?_; refine blk_put (cs := #[.int .i64 0, .int .i64 0, .int .i64 0, .string (⟨#[]⟩ : ByteArray), .slice none 0 0, .slice none 0 0]) ?_ 0 _ rfl; refine bx ?_; exact BK121.out⟩
 have n5_ : Aside0 (Below w.heap.size w ((((((w30.setCell ⟨gb121, 0, none⟩ (.int .i64 a0_0)).setCell ⟨gb121, 1, none⟩ (.int .i64 a0_1)).setCell ⟨gb121, 2, none⟩ (.int .i64 a0_2)).setCell ⟨gb121, 3, none⟩ (.string js5)).setCell ⟨gb121, 4, none⟩ (.slice Ao32 y115.length co32)).setCell ⟨gb121, 5, none⟩ (.slice Ao31 t118.length co31))) := ⟨bA⟩
 (try clear HO117)
 (try clear HO120)
 (try clear BK109)
 (try clear BK110)
 (try clear BK121)
 (try clear HB)
 generalize ((((((w30.setCell ⟨gb121, 0, none⟩ (.int .i64 a0_0)).setCell ⟨gb121, 1, none⟩ (.int .i64 a0_1)).setCell ⟨gb121, 2, none⟩ (.int .i64 a0_2)).setCell ⟨gb121, 3, none⟩ (.string js5)).setCell ⟨gb121, 4, none⟩ (.slice Ao32 y115.length co32)).setCell ⟨gb121, 5, none⟩ (.slice Ao31 t118.length co31)) = w42 at n0_ n1_ n2_ n3_ n4_ n5_ ⊢
 have HO117 := n0_
 have HO120 := n1_
 have BK109 := n2_
 have BK110 := n3_
 have BK121 := n4_
 have HB := n5_
 clear n0_ n1_ n2_ n3_ n4_ n5_
 replace HO117 := as_ (Kd.R_drew HO117.out)
 replace HO120 := as_ (Kd.R_drew HO120.out)
 replace BK109 := as_ (blk_drew BK109.out)
 replace BK110 := as_ (blk_drew BK110.out)
 replace BK121 := as_ (blk_drew BK121.out)
 replace HB := as_ (below_drew1 HB.out)
 have p122 : 0 ≤ (0 : Int) := (by omega)
 have q122 : 0 < (l0_5.length : Int) := of_decide_eq_true aM
 obtain ⟨ad122, e122, hx122_0⟩ := Kd.at_string HR0_5.out 0 p122 q122
 have hw122_0 := hx122_0
 (try rw [show ((0 : Int)).toNat = 0 from rfl] at hw122_0)
 (try rw [show 0 * 1 = 0 from rfl] at hw122_0)
 (try rw [Addr.add_zero'] at hw122_0)
 cases e122
 have qi122 : (0 < l0_5.length) = True := eq_true (by omega)
 (try rw [show ((0 : Int)).toNat = 0 from rfl] at hx122_0)
 (try rw [Addr.add_zero'] at hx122_0)
 replace hx122_0 := (HB.out.cell (World.block_lt_of_cell? w _ hx122_0)).trans hx122_0
 replace p122 := eq_true p122
 replace q122 := eq_true q122
 have p123 : 0 ≤ (0 : Int) := (by omega)
 have q123 : 0 < (l0_5.length : Int) := of_decide_eq_true aM
 obtain ⟨ad123, e123, hx123_0⟩ := Kd.at_string HR0_5.out 0 p123 q123
 have hw123_0 := hx123_0
 (try rw [show ((0 : Int)).toNat = 0 from rfl] at hw123_0)
 (try rw [show 0 * 1 = 0 from rfl] at hw123_0)
 (try rw [Addr.add_zero'] at hw123_0)
 obtain rfl : ad122 = ad123 := (by injection e123)
 have qi123 : (0 < l0_5.length) = True := eq_true (by omega)
 (try rw [show ((0 : Int)).toNat = 0 from rfl] at hx123_0)
 (try rw [Addr.add_zero'] at hx123_0)
 replace hx123_0 := (HB.out.cell (World.block_lt_of_cell? w _ hx123_0)).trans hx123_0
 replace p123 := eq_true p123
 replace q123 := eq_true q123
 have p18 : 0 ≤ (0 : Int) := (by omega)
 have q18 : (0 : Int) < ((t118.length : Int) : Int) := of_decide_eq_true aM
 have qi18 : (0 < t118.length) = True := eq_true (by omega)
 obtain ⟨go18, co18, eo18, gb18, gl18, cl18, HG18⟩ := Kd.R_form HO120.out (by omega)
 (first | cases eo18 | (injection eo18 with ea_ en_ ec_; (first | subst ea_ | (injection ea_ with ea_; subst ea_)); subst ec_; clear en_))
 have GB18 := Aside0.mk gb18
 have GG18 := Aside0.mk HG18
 clear gb18 gl18 HG18
 obtain ⟨hx18_0, hf18_0⟩ := Kd.R_celln (⟨#[]⟩ : ByteArray) HO120.out (0 : Int) p18 q18
 (try rw [show ((0 : Int)).toNat = 0 from rfl] at hx18_0)
 (try simp only [Nat.reduceMul, Nat.zero_mul, Nat.zero_add, Nat.reduceAdd] at hx18_0)
 (try rw [show ((0 : Int)).toNat = 0 from rfl] at hf18_0)
 (try simp only [Nat.reduceMul, Nat.zero_mul, Nat.zero_add, Nat.reduceAdd] at hf18_0)
 replace p18 := eq_true p18
 replace q18 := eq_true q18
 have HP44 := Kd.R_putn HO120.out (0 : Int) js16
 rw [← Ny124.out] at HP44
 have HQ44 := Aside0.mk HP44
 clear HP44
 refine start_ (n := 15) (S := fun w' => w'.cell? ⟨gb121, 0, none⟩ = some (.int .i64 a0_0) ∧ w'.cell? ⟨gb121, 1, none⟩ = some (.int .i64 a0_1) ∧ w'.cell? ⟨gb121, 2, none⟩ = some (.int .i64 a0_2) ∧ w'.cell? ⟨gb121, 3, none⟩ = some (.string js5) ∧ w'.cell? ⟨gb121, 4, none⟩ = some (.slice Ao32 y115.length co32) ∧ w'.cell? ⟨gb121, 5, none⟩ = some (.slice (some ⟨go18, 0, none⟩) t118.length co31) ∧ w'.cell? ⟨gb109, 0, none⟩ = some (.int .i64 a0_0) ∧ w'.cell? ⟨gb109, 1, none⟩ = some (.int .i64 a0_1) ∧ w'.cell? ⟨gb109, 2, none⟩ = some (.int .i64 a0_2) ∧ w'.cell? ⟨gb109, 3, none⟩ = some (.string a0_3) ∧ w'.cell? ⟨gb109, 4, none⟩ = some (.slice A0_4 l0_4.length c0_4) ∧ w'.cell? ⟨gb109, 5, none⟩ = some (.slice (some ad122) l0_5.length c0_5) ∧ w'.cell? ad122 = some (.string (rdOf ByteArray.empty l0_5 0)) ∧ w'.cell? ad122 = some (.string (rdOf ByteArray.empty l0_5 0))) (ds := [14]) #[ff, ff, ff, ff, ff, ff, ff, ff, ff, ff, ff, ff, ff, ff, ff] (by kernel_rfl) rfl rfl ⟨(blk_cell BK121.out 0).trans rfl, (blk_cell BK121.out 1).trans rfl, (blk_cell BK121.out 2).trans rfl, (blk_cell BK121.out 3).trans rfl, (blk_cell BK121.out 4).trans rfl, (blk_cell BK121.out 5).trans rfl, (blk_cell BK109.out 0).trans rfl, (blk_cell BK109.out 1).trans rfl, (blk_cell BK109.out 2).trans rfl, (blk_cell BK109.out 3).trans rfl, (blk_cell BK109.out 4).trans rfl, (blk_cell BK109.out 5).trans rfl, ((HB.out.cell (World.block_lt_of_cell? w _ hw122_0)).trans hw122_0), ((HB.out.cell (World.block_lt_of_cell? w _ hw123_0)).trans hw123_0)⟩ (fun hHeld => ?_); refine with_tabW withylaw11_Cut.tab3 withylaw11_Cut.bits3 (fun HT_ HW_ => ?_)
 generalize w42.drew = w43 at HO117 HO120 BK109 BK110 BK121 HB GG18 HQ44 hf18_0 hx122_0 hx123_0 hx18_0 hHeld ⊢
 refine pu_ 0 (some 34) (mr [1, 14]) rfl rfl (h := ?_)
 refine pu_ 2 (some 36) (mr [1, 1, 1, 12]) rfl rfl (h := ?_)
 refine pu_ 6 (some 40) (mr [1, 1, 1, 3, 1, 8]) rfl rfl (h := ?_)
 refine take_ (i := 1) (N := some 35) (v := ?_) (a' := ?_) (mr [3, 3, 1, 8]) rfl rfl (take_ofW HT_.out HW_.out (by kernel_rfl)) (fun _ _ _ h => h) (Or.inl ⟨by rfl, ?_⟩) hHeld ?_ ?_
 rotate_left
 ·rintro w' ⟨s0, s1, s2, s3, s4, s5, s6, s7, s8, s9, s10, s11, s12, s13⟩
  go_simp
  with_reducible rfl
 rotate_left
 ·exact aP
 refine take_ (i := 3) (N := some 37) (v := ?_) (a' := ?_) (mr [4, 2, 1, 8]) rfl rfl (take_ofW HT_.out HW_.out (by kernel_rfl)) (fun _ _ _ h => h) (Or.inl ⟨by rfl, ?_⟩) hHeld ?_ ?_
 rotate_left
 ·rintro w' ⟨s0, s1, s2, s3, s4, s5, s6, s7, s8, s9, s10, s11, s12, s13⟩
  go_simp
  with_reducible rfl
 rotate_left
 ·exact aP
 refine pu_ 4 (some 38) (mr [5, 1, 1, 8]) rfl rfl (h := ?_)
 refine take_ (i := 5) (N := some 39) (v := ?_) (a' := ?_) (mr [7, 8]) rfl rfl (take_ofW HT_.out HW_.out (by kernel_rfl)) (fun _ _ _ h => h) (Or.inl ⟨by rfl, ?_⟩) hHeld ?_ ?_
 rotate_left
 ·rintro w' ⟨s0, s1, s2, s3, s4, s5, s6, s7, s8, s9, s10, s11, s12, s13⟩
  go_simp
  with_reducible rfl
 rotate_left
 ·exact aP
 refine take_ (i := 7) (N := some 41) (v := ?_) (a' := ?_) (mr [8, 7]) rfl rfl (take_ofW HT_.out HW_.out (by kernel_rfl)) (fun _ _ _ h => h) (Or.inl ⟨by rfl, ?_⟩) hHeld ?_ ?_
 rotate_left
 ·rintro w' ⟨s0, s1, s2, s3, s4, s5, s6, s7, s8, s9, s10, s11, s12, s13⟩
  go_simp
  with_reducible rfl
 rotate_left
 ·exact aP
 refine pu_ 8 (some 42) (mr [9, 6]) rfl rfl (h := ?_)
 refine take_ (i := 9) (N := some 43) (v := ?_) (a' := ?_) (mr [10, 5]) rfl rfl (take_ofW HT_.out HW_.out (by kernel_rfl)) (fun _ _ _ h => h) (Or.inl ⟨by rfl, ?_⟩) hHeld ?_ ?_
 rotate_left
 ·rintro w' ⟨s0, s1, s2, s3, s4, s5, s6, s7, s8, s9, s10, s11, s12, s13⟩
  go_simp
  with_reducible rfl
 rotate_left
 ·exact aP
 refine pu_ 10 (some 44) (mr [11, 4]) rfl rfl (h := ?_)
 refine pu_ 11 (some 45) (mr [12, 3]) rfl rfl (h := ?_)
 refine pu_ 12 (some 46) (mr [13, 2]) rfl rfl (h := ?_)
 refine pu_ 13 (some 47) (mr [14, 1]) rfl rfl (h := ?_)
 refine last_ (i := 14) (N := none) (mr [15]) rfl rfl (one_of HT_.out (by kernel_rfl)) (by decide) (fun K hK => ?_)
 refine skip_ (w1 := ?_) (by rfl) rfl ?_ ?_
 rotate_left
 ·go_simp
  rfl
 refine hK.out _ _ ?_
 clear hK K
 refine done_ (done_of HT_.out (by kernel_rfl)) ?_
 have n0_ : Aside0 (Kd.R (Kd.int .i64) 3 (w43.setCell ⟨go18, 0, none⟩ (.string js16)) w.heap.size (fun _ => True) (.slice Ao32 y115.length co32) y115) := ⟨by (with_reducible repeat (first | apply Kd.R_alloc | apply Kd.R_drewN | apply Kd.R_drew)); exact Kd.R_mono (Kd.R_far (p := ⟨go18, 0, none⟩) (Kd.R_types HO117.out GG18.out (by decide)) (fun _ hk => hk.2) (.string js16)) (fun _ hk => trivial)⟩
 have n1_ : Aside0 (Kd.R Kd.string 9 (w43.setCell ⟨go18, 0, none⟩ (.string js16)) w.heap.size (fun _ => True) (.slice (some ⟨go18, 0, none⟩) t118.length co31) y124) := ⟨by (with_reducible repeat (first | apply Kd.R_alloc | apply Kd.R_drewN | apply Kd.R_drew)); exact HQ44.out⟩
 have n2_ : Aside0 ((w43.setCell ⟨go18, 0, none⟩ (.string js16)).heap[gb109]? = some (.cells #[.int .i64 a0_0, .int .i64 a0_1, .int .i64 a0_2, .string a0_3, .slice A0_4 l0_4.length c0_4, .slice (some ad122) l0_5.length c0_5] 25 (0, 0))) := ⟨by refine bx ?_; refine blk_far ?_ (by have h_ := Kd.R_ne HO120.out BK109.out (by decide); intro e_; exact h_ (by rw [e_]; rfl)) _; refine bx ?_; exact BK109.out⟩
 have n3_ : Aside0 ((w43.setCell ⟨go18, 0, none⟩ (.string js16)).heap[gb110]? = some (.cells #[.int .i64 0, .int .i64 0, .int .i64 0, .string (⟨#[]⟩ : ByteArray), .slice none 0 0, .slice none 0 0] 25 (0, 0))) := ⟨by refine bx ?_; refine blk_far ?_ (by have h_ := Kd.R_ne HO120.out BK110.out (by decide); intro e_; exact h_ (by rw [e_]; rfl)) _; refine bx ?_; exact BK110.out⟩
 have n4_ : Aside0 ((w43.setCell ⟨go18, 0, none⟩ (.string js16)).heap[gb121]? = some (.cells #[.int .i64 a0_0, .int .i64 a0_1, .int .i64 a0_2, .string js5, .slice Ao32 y115.length co32, .slice (some ⟨go18, 0, none⟩) t118.length co31] 25 (0, 0))) := ⟨by refine bx ?_; refine blk_far ?_ (by have h_ := Kd.R_ne HO120.out BK121.out (by decide); intro e_; exact h_ (by rw [e_]; rfl)) _; refine bx ?_; exact BK121.out⟩
 have n5_ : Aside0 (Below w.heap.size w (w43.setCell ⟨go18, 0, none⟩ (.string js16))) := ⟨bA⟩
 (try clear HO117)
 (try clear HO120)
 (try clear BK109)
 (try clear BK110)
 (try clear BK121)
 (try clear HB)
 generalize (w43.setCell ⟨go18, 0, none⟩ (.string js16)) = w45 at n0_ n1_ n2_ n3_ n4_ n5_ ⊢
 have HO117 := n0_
 have HO120 := n1_
 have BK109 := n2_
 have BK110 := n3_
 have BK121 := n4_
 have HB := n5_
 clear n0_ n1_ n2_ n3_ n4_ n5_
 have hnb46 := NB121_110.out
 have hnc46 := NB110_121.out
 obtain ⟨hcz47_0, hcz47_1, hcz47_2, hcz47_3, hcz47_4, hcz47_5⟩ := zc6 BK121
 obtain ⟨hfz47_0, hfz47_1, hfz47_2, hfz47_3, hfz47_4, hfz47_5⟩ := zf6 BK121
 obtain ⟨hcz48_0, hcz48_1, hcz48_2, hcz48_3, hcz48_4, hcz48_5⟩ := zc6 BK110
 obtain ⟨hfz48_0, hfz48_1, hfz48_2, hfz48_3, hfz48_4, hfz48_5⟩ := zf6 BK110
 try go_wp2
 refine bodyPost_ret (results_cell_row rfl _ _ gb110 25 #[.int .i64 a0_0, .int .i64 a0_1, .int .i64 a0_2, .string js5, .slice Ao32 y115.length co32, .slice (some ⟨go18, 0, none⟩) t118.length co31] (0, 0) _ rfl (by refine bx ?_; refine blk_put (cs := #[.int .i64 a0_0, .int .i64 a0_1, .int .i64 a0_2, .string js5, .slice Ao32 y115.length co32, .slice none 0 0]) ?_ 5 _ rfl; refine bx ?_; refine blk_put (cs := #[.int .i64 a0_0, .int .i64 a0_1, .int .i64 a0_2, .string js5, .slice none 0 0, .slice none 0 0]) ?_ 4 _ rfl; refine bx ?_; refine blk_put (cs := #[.int .i64 a0_0, .int .i64 a0_1, .int .i64 a0_2, .string (⟨#[]⟩ : ByteArray), .slice none 0 0, .slice none 0 0]) ?_ 3 _ rfl; refine bx ?_; refine blk_put (cs := #[.int .i64 a0_0, .int .i64 a0_1, .int .i64 0, .string (⟨#[]⟩ : ByteArray), .slice none 0 0, .slice none 0 0]) ?_ 2 _ rfl; refine bx ?_; refine blk_put (cs := #[.int .i64 a0_0, .int .i64 0, .int .i64 0, .string (⟨#[]⟩ : ByteArray), .slice none 0 0, .slice none 0 0]) ?_ 1 _ rfl; refine bx ?_; refine blk_put (cs := #[.int .i64 0, .int .i64 0, .int .i64 0, .string (⟨#[]⟩ : ByteArray), .slice none 0 0, .slice none 0 0]) ?_ 0 _ rfl; refine bx ?_; exact BK110.out) Tryz.underlying25 rfl (by kernel_rfl)) rfl ?_
 exact ⟨_, _, by first | rfl | (simp [errW_none, errW_some] <;> rfl) | (simp only [← hji2, ← hjs5, ← hji6, ← hji13, ← hjs16]; first | rfl | (simp [errW_none, errW_some] <;> rfl)) | (simp [*, errW_none, errW_some] <;> rfl), by (with_reducible repeat (first | apply Kd.R_alloc | apply Kd.R_drewN | apply Kd.R_drew)); exact Kd.R_mono (Kd.R_far (p := ⟨gb110, 5, none⟩) (Kd.R_far (p := ⟨gb110, 4, none⟩) (Kd.R_far (p := ⟨gb110, 3, none⟩) (Kd.R_far (p := ⟨gb110, 2, none⟩) (Kd.R_far (p := ⟨gb110, 1, none⟩) (Kd.R_far (p := ⟨gb110, 0, none⟩) (Kd.R_types HO117.out BK110.out (by decide)) (fun _ hk => hk.2) (.int .i64 a0_0)) (fun _ hk => hk.2) (.int .i64 a0_1)) (fun _ hk => hk.2) (.int .i64 a0_2)) (fun _ hk => hk.2) (.string js5)) (fun _ hk => hk.2) (.slice Ao32 y115.length co32)) (fun _ hk => hk.2) (.slice (some ⟨go18, 0, none⟩) t118.length co31)) (fun _ hk => trivial), by (with_reducible repeat (first | apply Kd.R_alloc | apply Kd.R_drewN | apply Kd.R_drew)); exact Kd.R_mono (Kd.R_far (p := ⟨gb110, 5, none⟩) (Kd.R_far (p := ⟨gb110, 4, none⟩) (Kd.R_far (p := ⟨gb110, 3, none⟩) (Kd.R_far (p := ⟨gb110, 2, none⟩) (Kd.R_far (p := ⟨gb110, 1, none⟩) (Kd.R_far (p := ⟨gb110, 0, none⟩) (Kd.R_types HO120.out BK110.out (by decide)) (fun _ hk => hk.2) (.int .i64 a0_0)) (fun _ hk => hk.2) (.int .i64 a0_1)) (fun _ hk => hk.2) (.int .i64 a0_2)) (fun _ hk => hk.2) (.string js5)) (fun _ hk => hk.2) (.slice Ao32 y115.length co32)) (fun _ hk => hk.2) (.slice (some ⟨go18, 0, none⟩) t118.length co31)) (fun _ hk => trivial), bA⟩
end Go.Proofs.YtafebmhmcdnhkaaGreat.P
