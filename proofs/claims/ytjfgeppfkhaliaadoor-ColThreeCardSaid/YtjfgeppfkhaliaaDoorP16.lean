/- What is proved here: for functions of the Go text, a Lean function each, and that the call comes to just what it answers. Conditions: as each contract names them. Written by wip/tools/myprint.py, a driver of the print of the kit. -/
import Derived.Test.YtjfgeppfkhaliaaDoorP0
import Derived.Test.YtjfgeppfkhaliaaDoorP1
import Derived.Test.YtjfgeppfkhaliaaDoorP3
import Derived.Test.YtjfgeppfkhaliaaDoorP5
import Derived.Test.YtjfgeppfkhaliaaDoorP6
import Derived.Test.YtjfgeppfkhaliaaDoorP11
import Derived.Test.YtjfgeppfkhaliaaDoorP12
import Derived.Test.YtjfgeppfkhaliaaDoorWAbbr
namespace Go.Proofs.YtjfgeppfkhaliaaDoor.P
open Go.RowKit Go.Proofs.YtjfgeppfkhaliaaDoorW.PrintWords Go.Proofs.YtjfgeppfkhaliaaDoorW.PrintLast Go.Proofs.YtjfgeppfkhaliaaDoorW.PrintMore Go.Proofs.YtjfgeppfkhaliaaDoorW.Abbr
-- PACKED
attribute [local go_sem] max2_int min2_int max_two min_two max_three min_three max_four min_four Go.Proofs.YtjfgeppfkhaliaaDoorLaws.str_leq Go.Proofs.YtjfgeppfkhaliaaDoorLaws.str_gtr Go.Proofs.YtjfgeppfkhaliaaDoorLaws.str_geq Go.Proofs.YtjfgeppfkhaliaaDoorLaws.max2_str Go.Proofs.YtjfgeppfkhaliaaDoorLaws.min2_str   -- for this text's walks alone
set_option linter.unusedVariables false
set_option linter.unusedSimpArgs false

attribute [local go_sem high] eqA24
/-! ### withylaw03_ColThree: function 7 -/
mutual
def withylaw03_ColThree.j0 : Nat → Bool → Int → Int → Int → ByteArray → Int → Int → Int → ByteArray → Int → Int → Int → ByteArray → Option (Bool)
 | 0, _, _, _, _, _, _, _, _, _, _, _, _, _ => none
 | k + 1, x31, x433000, x433001, x433002, x433003, x434000, x434001, x434002, x434003, x435000, x435001, x435002, x435003 => if x31 = true then ((withylaw03_fixed.f k).bind fun t462 => (some t462)) else ((col_Compare.f k x433000 x433001 x433002 x433003 x434000 x434001 x434002 x434003).bind fun t463 => ((col_Compare.f k x434000 x434001 x434002 x434003 x435000 x435001 x435002 x435003).bind fun t464 => ((col_Compare.f k x433000 x433001 x433002 x433003 x435000 x435001 x435002 x435003).bind fun t465 => (if t463 < (-1) then (withylaw03_ColThree.j1 k t463 t464 t465 true x433000 x433001 x433002 x433003) else (if t463 > 1 then (withylaw03_ColThree.j1 k t463 t464 t465 true x433000 x433001 x433002 x433003) else ((col_Compare.f k x434000 x434001 x434002 x434003 x433000 x433001 x433002 x433003).bind fun t466 => (if t466 = (wrap64 (-t463)) then (withylaw03_ColThree.j1 k t463 t464 t465 ((t463 == 0) != (x433000 == x434000 && (x433001 == x434001 && (x433002 == x434002 && (x433003.toList == x434003.toList))))) x433000 x433001 x433002 x433003) else (withylaw03_ColThree.j1 k t463 t464 t465 true x433000 x433001 x433002 x433003))))))))
def withylaw03_ColThree.j1 : Nat → Int → Int → Int → Bool → Int → Int → Int → ByteArray → Option (Bool)
 | 0, _, _, _, _, _, _, _, _ => none
 | k + 1, x7, x8, x9, x63, x433000, x433001, x433002, x433003 => if x63 = true then (none) else (if x7 > 0 then (if x7 = (-1) then (if x8 > 0 then ((col_Compare.f k x433000 x433001 x433002 x433003 x433000 x433001 x433002 x433003).bind fun t467 => (if t467 = 0 then ((withylaw03_fixed.f k).bind fun t468 => (some t468)) else (none))) else (if x9 = (-1) then ((col_Compare.f k x433000 x433001 x433002 x433003 x433000 x433001 x433002 x433003).bind fun t469 => (if t469 = 0 then ((withylaw03_fixed.f k).bind fun t470 => (some t470)) else (none))) else (none))) else ((col_Compare.f k x433000 x433001 x433002 x433003 x433000 x433001 x433002 x433003).bind fun t471 => (if t471 = 0 then ((withylaw03_fixed.f k).bind fun t472 => (some t472)) else (none)))) else (if x8 > 0 then (if x7 = (-1) then ((col_Compare.f k x433000 x433001 x433002 x433003 x433000 x433001 x433002 x433003).bind fun t473 => (if t473 = 0 then ((withylaw03_fixed.f k).bind fun t474 => (some t474)) else (none))) else ((col_Compare.f k x433000 x433001 x433002 x433003 x433000 x433001 x433002 x433003).bind fun t475 => (if t475 = 0 then ((withylaw03_fixed.f k).bind fun t476 => (some t476)) else (none)))) else (if x9 ≤ 0 then (if x7 = (-1) then (if x9 = (-1) then ((col_Compare.f k x433000 x433001 x433002 x433003 x433000 x433001 x433002 x433003).bind fun t477 => (if t477 = 0 then ((withylaw03_fixed.f k).bind fun t478 => (some t478)) else (none))) else (none)) else ((col_Compare.f k x433000 x433001 x433002 x433003 x433000 x433001 x433002 x433003).bind fun t479 => (if t479 = 0 then ((withylaw03_fixed.f k).bind fun t480 => (some t480)) else (none)))) else (none))))
end
def withylaw03_ColThree.f (k : Nat) (a0_0 : Int) (a0_1 : Int) (a0_2 : Int) (a0_3 : ByteArray) (a1_0 : Int) (a1_1 : Int) (a1_2 : Int) (a1_3 : ByteArray) (a2_0 : Int) (a2_1 : Int) (a2_2 : Int) (a2_3 : ByteArray) : Option (Bool) := (withylaw03_Cut.f a0_0 a0_1 a0_2 a0_3).bind fun bt435 => ((withylaw03_Cut.f a1_0 a1_1 a1_2 a1_3).bind fun bt439 => ((withylaw03_Cut.f a2_0 a2_1 a2_2 a2_3).bind fun bt443 => ((withylaw03_Ref.f bt435.1 bt435.2.1 bt435.2.2.1 bt435.2.2.2).bind fun bt447 => ((withyref03_Right.f bt447.1 bt447.2.1 bt447.2.2.1 bt447.2.2.2).bind fun t451 => (if t451 = true then ((withylaw03_Ref.f bt439.1 bt439.2.1 bt439.2.2.1 bt439.2.2.2).bind fun bt452 => ((withyref03_Right.f bt452.1 bt452.2.1 bt452.2.2.1 bt452.2.2.2).bind fun t456 => (if t456 = true then ((withylaw03_Ref.f bt443.1 bt443.2.1 bt443.2.2.1 bt443.2.2.2).bind fun bt457 => ((withyref03_Right.f bt457.1 bt457.2.1 bt457.2.2.1 bt457.2.2.2).bind fun t461 => (withylaw03_ColThree.j0 k (!t461) bt435.1 bt435.2.1 bt435.2.2.1 bt435.2.2.2 bt439.1 bt439.2.1 bt439.2.2.1 bt439.2.2.2 bt443.1 bt443.2.1 bt443.2.2.1 bt443.2.2.2))) else (withylaw03_ColThree.j0 k true bt435.1 bt435.2.1 bt435.2.2.1 bt435.2.2.2 bt439.1 bt439.2.1 bt439.2.2.1 bt439.2.2.2 bt443.1 bt443.2.1 bt443.2.2.1 bt443.2.2.2)))) else (withylaw03_ColThree.j0 k true bt435.1 bt435.2.1 bt435.2.2.1 bt435.2.2.2 bt439.1 bt439.2.1 bt439.2.2.1 bt439.2.2.2 bt443.1 bt443.2.1 bt443.2.2.1 bt443.2.2.2))))))
theorem withylaw03_ColThree.mono_l : ∀ k, (∀ y0 y1 y2 y3 y4 y5 y6 y7 y8 y9 y10 y11 y12, LeO (withylaw03_ColThree.j0 k y0 y1 y2 y3 y4 y5 y6 y7 y8 y9 y10 y11 y12) (withylaw03_ColThree.j0 (k + 1) y0 y1 y2 y3 y4 y5 y6 y7 y8 y9 y10 y11 y12)) ∧ (∀ y0 y1 y2 y3 y4 y5 y6 y7, LeO (withylaw03_ColThree.j1 k y0 y1 y2 y3 y4 y5 y6 y7) (withylaw03_ColThree.j1 (k + 1) y0 y1 y2 y3 y4 y5 y6 y7))
 | 0 => ⟨fun _ _ _ _ _ _ _ _ _ _ _ _ _ r h => by simp [withylaw03_ColThree.j0] at h, fun _ _ _ _ _ _ _ _ r h => by simp [withylaw03_ColThree.j1] at h⟩
 | k + 1 => by
  obtain ⟨ih0, ih1⟩ := withylaw03_ColThree.mono_l k
  refine ⟨?_, ?_⟩
  ·intro y0 y1 y2 y3 y4 y5 y6 y7 y8 y9 y10 y11 y12
   unfold withylaw03_ColThree.j0
   repeat' first
   | (with_reducible exact ih0 _ _ _ _ _ _ _ _ _ _ _ _ _)
   | (with_reducible exact ih1 _ _ _ _ _ _ _ _)
   | (with_reducible exact col_Compare.mono _ _ _ _ _ _ _ _ _)
   | (with_reducible exact withylaw03_fixed.mono _)
   | (with_reducible exact LeO.refl _)
   | (with_reducible exact LeO.none _)
   | (with_reducible refine LeO.ite ?_ ?_)
   | (with_reducible refine LeO.bind ?_ (fun _ => ?_))
   | exact ih0 _ _ _ _ _ _ _ _ _ _ _ _ _
   | exact ih1 _ _ _ _ _ _ _ _
   | exact col_Compare.mono _ _ _ _ _ _ _ _ _
   | exact withylaw03_fixed.mono _
   | exact LeO.none _
   | refine LeO.ite ?_ ?_
   | refine LeO.bind ?_ (fun _ => ?_)
  ·intro y0 y1 y2 y3 y4 y5 y6 y7
   unfold withylaw03_ColThree.j1
   repeat' first
   | (with_reducible exact ih0 _ _ _ _ _ _ _ _ _ _ _ _ _)
   | (with_reducible exact ih1 _ _ _ _ _ _ _ _)
   | (with_reducible exact col_Compare.mono _ _ _ _ _ _ _ _ _)
   | (with_reducible exact withylaw03_fixed.mono _)
   | (with_reducible exact LeO.refl _)
   | (with_reducible exact LeO.none _)
   | (with_reducible refine LeO.ite ?_ ?_)
   | (with_reducible refine LeO.bind ?_ (fun _ => ?_))
   | exact ih0 _ _ _ _ _ _ _ _ _ _ _ _ _
   | exact ih1 _ _ _ _ _ _ _ _
   | exact col_Compare.mono _ _ _ _ _ _ _ _ _
   | exact withylaw03_fixed.mono _
   | exact LeO.none _
   | refine LeO.ite ?_ ?_
   | refine LeO.bind ?_ (fun _ => ?_)
theorem withylaw03_ColThree.mono : ∀ a0 a1 a2 a3 a4 a5 a6 a7 a8 a9 a10 a11 k, LeO (withylaw03_ColThree.f k a0 a1 a2 a3 a4 a5 a6 a7 a8 a9 a10 a11) (withylaw03_ColThree.f (k + 1) a0 a1 a2 a3 a4 a5 a6 a7 a8 a9 a10 a11) := by
 intro a0 a1 a2 a3 a4 a5 a6 a7 a8 a9 a10 a11 k
 obtain ⟨ih0, ih1⟩ := withylaw03_ColThree.mono_l k
 unfold withylaw03_ColThree.f
 repeat' first
   | (with_reducible exact ih0 _ _ _ _ _ _ _ _ _ _ _ _ _)
   | (with_reducible exact ih1 _ _ _ _ _ _ _ _)
   | (with_reducible exact col_Compare.mono _ _ _ _ _ _ _ _ _)
   | (with_reducible exact withylaw03_fixed.mono _)
   | (with_reducible exact LeO.refl _)
   | (with_reducible exact LeO.none _)
   | (with_reducible refine LeO.ite ?_ ?_)
   | (with_reducible refine LeO.bind ?_ (fun _ => ?_))
   | exact ih0 _ _ _ _ _ _ _ _ _ _ _ _ _
   | exact ih1 _ _ _ _ _ _ _ _
   | exact col_Compare.mono _ _ _ _ _ _ _ _ _
   | exact withylaw03_fixed.mono _
   | exact LeO.none _
   | refine LeO.ite ?_ ?_
   | refine LeO.bind ?_ (fun _ => ?_)
def withylaw03_ColThree.T6 : Bool × List (List Nat × List Nat) := (true, [([], []), ([], []), ([0, 1], [0, 1]), ([], []), ([], []), ([3, 4, 2], [3, 4]), ([], []), ([], []), ([6, 7, 5], [6, 7]), ([2, 8, 0, 1, 2], [2]), ([5, 9, 0, 1, 2, 3, 4, 5, 9], [5]), ([8, 10, 0, 1, 2, 3, 4, 5, 6, 7, 8, 9, 10], [8])])
def withylaw03_ColThree.B6 : List Nat := [0, 0, 3, 0, 0, 31, 0, 0, 255, 511, 1023, 2047]
theorem withylaw03_ColThree.tab6 : rtab .any (opsOf Tryd.f7 6) = withylaw03_ColThree.T6 := by kernel_rfl
theorem withylaw03_ColThree.bits6 : waitsOk withylaw03_ColThree.T6.2 withylaw03_ColThree.B6 = true := by kernel_rfl
set_option maxHeartbeats 8000000 in
set_option maxRecDepth 100000 in
theorem withylaw03_ColThree.calls (k : Nat) (a0_0 : Int) (a0_1 : Int) (a0_2 : Int) (a0_3 : ByteArray) (a1_0 : Int) (a1_1 : Int) (a1_2 : Int) (a1_3 : ByteArray) (a2_0 : Int) (a2_1 : Int) (a2_2 : Int) (a2_3 : ByteArray) (r : Bool) (w : World) (h : withylaw03_ColThree.f k a0_0 a0_1 a0_2 a0_3 a1_0 a1_1 a1_2 a1_3 a2_0 a2_1 a2_2 a2_3 = some r) :
  Calls Tryd.prog 7 #[.agg #[.int .i64 a0_0, .int .i64 a0_1, .int .u64 a0_2, .string a0_3], .agg #[.int .i64 a1_0, .int .i64 a1_1, .int .u64 a1_2, .string a1_3], .agg #[.int .i64 a2_0, .int .i64 a2_1, .int .u64 a2_2, .string a2_3]] w fun e w' => e = .returned (.bool r) ∧ Below w.heap.size w w' := by
 have hu24 := Tryd.underlying24
 have HB := as_ (Below.refl w.heap.size w)
 have H : ((withylaw03_Cut.f a0_0 a0_1 a0_2 a0_3).bind fun bt435 => ((withylaw03_Cut.f a1_0 a1_1 a1_2 a1_3).bind fun bt439 => ((withylaw03_Cut.f a2_0 a2_1 a2_2 a2_3).bind fun bt443 => ((withylaw03_Ref.f bt435.1 bt435.2.1 bt435.2.2.1 bt435.2.2.2).bind fun bt447 => ((withyref03_Right.f bt447.1 bt447.2.1 bt447.2.2.1 bt447.2.2.2).bind fun t451 => (if t451 = true then ((withylaw03_Ref.f bt439.1 bt439.2.1 bt439.2.2.1 bt439.2.2.2).bind fun bt452 => ((withyref03_Right.f bt452.1 bt452.2.1 bt452.2.2.1 bt452.2.2.2).bind fun t456 => (if t456 = true then ((withylaw03_Ref.f bt443.1 bt443.2.1 bt443.2.2.1 bt443.2.2.2).bind fun bt457 => ((withyref03_Right.f bt457.1 bt457.2.1 bt457.2.2.1 bt457.2.2.2).bind fun t461 => (withylaw03_ColThree.j0 k (!t461) bt435.1 bt435.2.1 bt435.2.2.1 bt435.2.2.2 bt439.1 bt439.2.1 bt439.2.2.1 bt439.2.2.2 bt443.1 bt443.2.1 bt443.2.2.1 bt443.2.2.2))) else (withylaw03_ColThree.j0 k true bt435.1 bt435.2.1 bt435.2.2.1 bt435.2.2.2 bt439.1 bt439.2.1 bt439.2.2.1 bt439.2.2.2 bt443.1 bt443.2.1 bt443.2.2.1 bt443.2.2.2)))) else (withylaw03_ColThree.j0 k true bt435.1 bt435.2.1 bt435.2.2.1 bt435.2.2.2 bt439.1 bt439.2.1 bt439.2.2.1 bt439.2.2.2 bt443.1 bt443.2.1 bt443.2.2.1 bt443.2.2.2))))))) = some r := h
 clear h
 replace H := bM H
 obtain ⟨⟨t435, t436, t437, t438⟩, A40, H⟩ := H
 replace H : ((withylaw03_Cut.f a1_0 a1_1 a1_2 a1_3).bind fun bt439 => ((withylaw03_Cut.f a2_0 a2_1 a2_2 a2_3).bind fun bt443 => ((withylaw03_Ref.f t435 t436 t437 t438).bind fun bt447 => ((withyref03_Right.f bt447.1 bt447.2.1 bt447.2.2.1 bt447.2.2.2).bind fun t451 => (if t451 = true then ((withylaw03_Ref.f bt439.1 bt439.2.1 bt439.2.2.1 bt439.2.2.2).bind fun bt452 => ((withyref03_Right.f bt452.1 bt452.2.1 bt452.2.2.1 bt452.2.2.2).bind fun t456 => (if t456 = true then ((withylaw03_Ref.f bt443.1 bt443.2.1 bt443.2.2.1 bt443.2.2.2).bind fun bt457 => ((withyref03_Right.f bt457.1 bt457.2.1 bt457.2.2.1 bt457.2.2.2).bind fun t461 => (withylaw03_ColThree.j0 k (!t461) t435 t436 t437 t438 bt439.1 bt439.2.1 bt439.2.2.1 bt439.2.2.2 bt443.1 bt443.2.1 bt443.2.2.1 bt443.2.2.2))) else (withylaw03_ColThree.j0 k true t435 t436 t437 t438 bt439.1 bt439.2.1 bt439.2.2.1 bt439.2.2.2 bt443.1 bt443.2.1 bt443.2.2.1 bt443.2.2.2)))) else (withylaw03_ColThree.j0 k true t435 t436 t437 t438 bt439.1 bt439.2.1 bt439.2.2.1 bt439.2.2.2 bt443.1 bt443.2.1 bt443.2.2.1 bt443.2.2.2)))))) = some r := H
 have A4 := Aside0.mk A40
 clear A40
 replace H := bM H
 obtain ⟨⟨t439, t440, t441, t442⟩, A50, H⟩ := H
 replace H : ((withylaw03_Cut.f a2_0 a2_1 a2_2 a2_3).bind fun bt443 => ((withylaw03_Ref.f t435 t436 t437 t438).bind fun bt447 => ((withyref03_Right.f bt447.1 bt447.2.1 bt447.2.2.1 bt447.2.2.2).bind fun t451 => (if t451 = true then ((withylaw03_Ref.f t439 t440 t441 t442).bind fun bt452 => ((withyref03_Right.f bt452.1 bt452.2.1 bt452.2.2.1 bt452.2.2.2).bind fun t456 => (if t456 = true then ((withylaw03_Ref.f bt443.1 bt443.2.1 bt443.2.2.1 bt443.2.2.2).bind fun bt457 => ((withyref03_Right.f bt457.1 bt457.2.1 bt457.2.2.1 bt457.2.2.2).bind fun t461 => (withylaw03_ColThree.j0 k (!t461) t435 t436 t437 t438 t439 t440 t441 t442 bt443.1 bt443.2.1 bt443.2.2.1 bt443.2.2.2))) else (withylaw03_ColThree.j0 k true t435 t436 t437 t438 t439 t440 t441 t442 bt443.1 bt443.2.1 bt443.2.2.1 bt443.2.2.2)))) else (withylaw03_ColThree.j0 k true t435 t436 t437 t438 t439 t440 t441 t442 bt443.1 bt443.2.1 bt443.2.2.1 bt443.2.2.2))))) = some r := H
 have A5 := Aside0.mk A50
 clear A50
 replace H := bM H
 obtain ⟨⟨t443, t444, t445, t446⟩, A60, H⟩ := H
 replace H : ((withylaw03_Ref.f t435 t436 t437 t438).bind fun bt447 => ((withyref03_Right.f bt447.1 bt447.2.1 bt447.2.2.1 bt447.2.2.2).bind fun t451 => (if t451 = true then ((withylaw03_Ref.f t439 t440 t441 t442).bind fun bt452 => ((withyref03_Right.f bt452.1 bt452.2.1 bt452.2.2.1 bt452.2.2.2).bind fun t456 => (if t456 = true then ((withylaw03_Ref.f t443 t444 t445 t446).bind fun bt457 => ((withyref03_Right.f bt457.1 bt457.2.1 bt457.2.2.1 bt457.2.2.2).bind fun t461 => (withylaw03_ColThree.j0 k (!t461) t435 t436 t437 t438 t439 t440 t441 t442 t443 t444 t445 t446))) else (withylaw03_ColThree.j0 k true t435 t436 t437 t438 t439 t440 t441 t442 t443 t444 t445 t446)))) else (withylaw03_ColThree.j0 k true t435 t436 t437 t438 t439 t440 t441 t442 t443 t444 t445 t446)))) = some r := H
 have A6 := Aside0.mk A60
 clear A60
 have HC7 := Aside0.mk H
 clear H
 go_enter Tryd.func7, Tryd.ntmps7
 go_upto_region 4 with (first | ((with_reducible refine gate_dst (N := 3) rfl ?_); refine box_event (by rfl) (N := 3) (by rfl) (cs := #[.int .i64 a0_0, .int .i64 a0_1, .int .u64 a0_2, .string a0_3]) (t := 24) gS ?_; intro gb432 hg w8 hbox hb; have BK432 := as_ (hbox); have GW432 := gw hg bA; have GE432 := gw hg bA; replace HB := as_ (below_step bA hb); clear hb hbox hg) | ((with_reducible refine gate_dst (N := 4) rfl ?_); refine box_event (by rfl) (N := 4) (by rfl) (cs := #[.int .i64 a1_0, .int .i64 a1_1, .int .u64 a1_2, .string a1_3]) (t := 24) gS ?_; intro gb433 hg w9 hbox hb; have BK433 := as_ (hbox); have GW433 := gw hg bA; have GE433 := gw hg bA; have NB432_433 := nl BK432 hg; have NB433_432 := ng BK432 hg; replace BK432 := bb BK432 hb; replace HB := as_ (below_step bA hb); clear hb hbox hg) | ((with_reducible refine gate_dst (N := 5) rfl ?_); refine box_event (by rfl) (N := 5) (by rfl) (cs := #[.int .i64 a2_0, .int .i64 a2_1, .int .u64 a2_2, .string a2_3]) (t := 24) gS ?_; intro gb434 hg w10 hbox hb; have BK434 := as_ (hbox); have GW434 := gw hg bA; have GE434 := gw hg bA; have NB432_434 := nl BK432 hg; have NB434_432 := ng BK432 hg; have NB433_434 := nl BK433 hg; have NB434_433 := ng BK433 hg; replace BK432 := bb BK432 hb; replace BK433 := bb BK433 hb; replace HB := as_ (below_step bA hb); clear hb hbox hg; have hnb11 := NB432_433.out; have hnc11 := NB433_432.out; have hnb12 := NB432_434.out; have hnc12 := NB434_432.out; obtain ⟨hcz13_0, hcz13_1, hcz13_2, hcz13_3⟩ := zc4 BK432; obtain ⟨hfz13_0, hfz13_1, hfz13_2, hfz13_3⟩ := zf4 BK432) | ((with_reducible refine gate_callee (f := 9) rfl ?_); refine goesL_ (some 11) rfl rfl Tryd.func9 (by kernel_rfl) rfl #[.agg #[.int .i64 a0_0, .int .i64 a0_1, .int .u64 a0_2, .string a0_3]] rfl aO ?_; (with_reducible refine (withylaw03_Cut.calls a0_0 a0_1 a0_2 a0_3 t435 t436 t437 t438 _ A4.out).mono ?_); rintro e w14 ⟨rfl, hb⟩; refine ⟨_, rfl, ?_⟩; replace BK432 := bb BK432 hb; replace BK433 := bb BK433 hb; replace BK434 := bb BK434 hb; replace HB := as_ (below_step bA hb); (try clear hb); (try clear hb2); (try clear hk); (try clear hi); obtain ⟨hcz15_0, hcz15_1, hcz15_2, hcz15_3⟩ := zc4 BK432; obtain ⟨hfz15_0, hfz15_1, hfz15_2, hfz15_3⟩ := zf4 BK432; have hnb16 := NB433_434.out; have hnc16 := NB434_433.out; obtain ⟨hcz17_0, hcz17_1, hcz17_2, hcz17_3⟩ := zc4 BK433; obtain ⟨hfz17_0, hfz17_1, hfz17_2, hfz17_3⟩ := zf4 BK433) | ((with_reducible refine gate_callee (f := 9) rfl ?_); refine goesL_ (some 13) rfl rfl Tryd.func9 (by kernel_rfl) rfl #[.agg #[.int .i64 a1_0, .int .i64 a1_1, .int .u64 a1_2, .string a1_3]] rfl aO ?_; (with_reducible refine (withylaw03_Cut.calls a1_0 a1_1 a1_2 a1_3 t439 t440 t441 t442 _ A5.out).mono ?_); rintro e w18 ⟨rfl, hb⟩; refine ⟨_, rfl, ?_⟩; replace BK432 := as_ (blk_below (g := gb432) (o := .cells #[.int .i64 t435, .int .i64 t436, .int .u64 t437, .string t438] 24 (0, 0)) (by refine bx ?_; refine blk_put (cs := #[.int .i64 t435, .int .i64 t436, .int .u64 t437, .string a0_3]) ?_ 3 _ rfl; refine bx ?_; refine blk_put (cs := #[.int .i64 t435, .int .i64 t436, .int .u64 a0_2, .string a0_3]) ?_ 2 _ rfl; refine bx ?_; refine blk_put (cs := #[.int .i64 t435, .int .i64 a0_1, .int .u64 a0_2, .string a0_3]) ?_ 1 _ rfl; refine bx ?_; refine blk_put (cs := #[.int .i64 a0_0, .int .i64 a0_1, .int .u64 a0_2, .string a0_3]) ?_ 0 _ rfl; refine bx ?_; exact BK432.out) hb); replace BK433 := as_ (blk_below (g := gb433) (o := .cells #[.int .i64 a1_0, .int .i64 a1_1, .int .u64 a1_2, .string a1_3] 24 (0, 0)) (by refine bx ?_; refine blk_far ?_ NB433_432.out _; refine bx ?_; refine blk_far ?_ NB433_432.out _; refine bx ?_; refine blk_far ?_ NB433_432.out _; refine bx ?_; refine blk_far ?_ NB433_432.out _; refine bx ?_; exact BK433.out) hb); replace BK434 := as_ (blk_below (g := gb434) (o := .cells #[.int .i64 a2_0, .int .i64 a2_1, .int .u64 a2_2, .string a2_3] 24 (0, 0)) (by refine bx ?_; refine blk_far ?_ NB434_432.out _; refine bx ?_; refine blk_far ?_ NB434_432.out _; refine bx ?_; refine blk_far ?_ NB434_432.out _; refine bx ?_; refine blk_far ?_ NB434_432.out _; refine bx ?_; exact BK434.out) hb); replace HB := as_ (below_step bA hb); (try clear hb); (try clear hb2); (try clear hk); (try clear hi); obtain ⟨hcz19_0, hcz19_1, hcz19_2, hcz19_3⟩ := zc4 BK433; obtain ⟨hfz19_0, hfz19_1, hfz19_2, hfz19_3⟩ := zf4 BK433; obtain ⟨hcz20_0, hcz20_1, hcz20_2, hcz20_3⟩ := zc4 BK434; obtain ⟨hfz20_0, hfz20_1, hfz20_2, hfz20_3⟩ := zf4 BK434) | ((with_reducible refine gate_callee (f := 9) rfl ?_); refine goesL_ (some 15) rfl rfl Tryd.func9 (by kernel_rfl) rfl #[.agg #[.int .i64 a2_0, .int .i64 a2_1, .int .u64 a2_2, .string a2_3]] rfl aO ?_; (with_reducible refine (withylaw03_Cut.calls a2_0 a2_1 a2_2 a2_3 t443 t444 t445 t446 _ A6.out).mono ?_); rintro e w21 ⟨rfl, hb⟩; refine ⟨_, rfl, ?_⟩; replace BK432 := as_ (blk_below (g := gb432) (o := .cells #[.int .i64 t435, .int .i64 t436, .int .u64 t437, .string t438] 24 (0, 0)) (by refine bx ?_; refine blk_far ?_ NB432_433.out _; refine bx ?_; refine blk_far ?_ NB432_433.out _; refine bx ?_; refine blk_far ?_ NB432_433.out _; refine bx ?_; refine blk_far ?_ NB432_433.out _; refine bx ?_; exact BK432.out) hb); replace BK433 := as_ (blk_below (g := gb433) (o := .cells #[.int .i64 t439, .int .i64 t440, .int .u64 t441, .string t442] 24 (0, 0)) (by refine bx ?_; refine blk_put (cs := #[.int .i64 t439, .int .i64 t440, .int .u64 t441, .string a1_3]) ?_ 3 _ rfl; refine bx ?_; refine blk_put (cs := #[.int .i64 t439, .int .i64 t440, .int .u64 a1_2, .string a1_3]) ?_ 2 _ rfl; refine bx ?_; refine blk_put (cs := #[.int .i64 t439, .int .i64 a1_1, .int .u64 a1_2, .string a1_3]) ?_ 1 _ rfl; refine bx ?_; refine blk_put (cs := #[.int .i64 a1_0, .int .i64 a1_1, .int .u64 a1_2, .string a1_3]) ?_ 0 _ rfl; refine bx ?_; exact BK433.out) hb); replace BK434 := as_ (blk_below (g := gb434) (o := .cells #[.int .i64 a2_0, .int .i64 a2_1, .int .u64 a2_2, .string a2_3] 24 (0, 0)) (by refine bx ?_; refine blk_far ?_ NB434_433.out _; refine bx ?_; refine blk_far ?_ NB434_433.out _; refine bx ?_; refine blk_far ?_ NB434_433.out _; refine bx ?_; refine blk_far ?_ NB434_433.out _; refine bx ?_; exact BK434.out) hb); replace HB := as_ (below_step bA hb); (try clear hb); (try clear hb2); (try clear hk); (try clear hi); obtain ⟨hcz22_0, hcz22_1, hcz22_2, hcz22_3⟩ := zc4 BK434; obtain ⟨hfz22_0, hfz22_1, hfz22_2, hfz22_3⟩ := zf4 BK434))
 (try simp only [Act.put, List.setIfInBounds_toArray, List.set_cons_zero, List.set_cons_succ])
 go_cut [31] (fun v31 wc => ∃ (kq : Nat) (x31_6 : Bool), v31 = .bool x31_6 ∧ Aside0 (withylaw03_ColThree.j0 kq x31_6 t435 t436 t437 t438 t439 t440 t441 t442 t443 t444 t445 t446 = some r) ∧ Aside0 (kq ≤ k) ∧ Aside0 (wc.heap[gb432]? = some (.cells #[.int .i64 t435, .int .i64 t436, .int .u64 t437, .string t438] 24 (0, 0))) ∧ Aside0 (wc.heap[gb433]? = some (.cells #[.int .i64 t439, .int .i64 t440, .int .u64 t441, .string t442] 24 (0, 0))) ∧ Aside0 (wc.heap[gb434]? = some (.cells #[.int .i64 t443, .int .i64 t444, .int .u64 t445, .string t446] 24 (0, 0))) ∧ Aside0 (Below w.heap.size w wc))
 case first =>
  have H := HC7.out
  clear HC7
  replace H := bM H
  obtain ⟨⟨t447, t448, t449, t450⟩, A230, H⟩ := H
  replace H : ((withyref03_Right.f t447 t448 t449 t450).bind fun t451 => (if t451 = true then ((withylaw03_Ref.f t439 t440 t441 t442).bind fun bt452 => ((withyref03_Right.f bt452.1 bt452.2.1 bt452.2.2.1 bt452.2.2.2).bind fun t456 => (if t456 = true then ((withylaw03_Ref.f t443 t444 t445 t446).bind fun bt457 => ((withyref03_Right.f bt457.1 bt457.2.1 bt457.2.2.1 bt457.2.2.2).bind fun t461 => (withylaw03_ColThree.j0 k (!t461) t435 t436 t437 t438 t439 t440 t441 t442 t443 t444 t445 t446))) else (withylaw03_ColThree.j0 k true t435 t436 t437 t438 t439 t440 t441 t442 t443 t444 t445 t446)))) else (withylaw03_ColThree.j0 k true t435 t436 t437 t438 t439 t440 t441 t442 t443 t444 t445 t446))) = some r := H
  have A23 := Aside0.mk A230
  clear A230
  replace H := bM H
  obtain ⟨t451, A240, H⟩ := H
  replace H : (if t451 = true then ((withylaw03_Ref.f t439 t440 t441 t442).bind fun bt452 => ((withyref03_Right.f bt452.1 bt452.2.1 bt452.2.2.1 bt452.2.2.2).bind fun t456 => (if t456 = true then ((withylaw03_Ref.f t443 t444 t445 t446).bind fun bt457 => ((withyref03_Right.f bt457.1 bt457.2.1 bt457.2.2.1 bt457.2.2.2).bind fun t461 => (withylaw03_ColThree.j0 k (!t461) t435 t436 t437 t438 t439 t440 t441 t442 t443 t444 t445 t446))) else (withylaw03_ColThree.j0 k true t435 t436 t437 t438 t439 t440 t441 t442 t443 t444 t445 t446)))) else (withylaw03_ColThree.j0 k true t435 t436 t437 t438 t439 t440 t441 t442 t443 t444 t445 t446)) = some r := H
  have A24 := Aside0.mk A240
  clear A240
  by_cases c25 : t451 = true
  rotate_left
  ·replace c25 := Bool.eq_false_iff.mpr c25
   subst c25
   have H1 : (withylaw03_ColThree.j0 k true t435 t436 t437 t438 t439 t440 t441 t442 t443 t444 t445 t446) = some r := by rw [if_neg (show ¬ (false = true) by decide)] at H; exact H
   clear H
   have H := H1
   clear H1
   have H' := Aside0.mk H
   clear H
   have hnb52 := NB432_433.out
   have hnc52 := NB433_432.out
   have hnb53 := NB432_434.out
   have hnc53 := NB434_432.out
   obtain ⟨hcz54_0, hcz54_1, hcz54_2, hcz54_3⟩ := zc4 BK432
   obtain ⟨hfz54_0, hfz54_1, hfz54_2, hfz54_3⟩ := zf4 BK432
   go_wp2_with (first | ((with_reducible refine gate_callee (f := 12) rfl ?_); refine goesL_ (some 17) rfl rfl Tryd.func12 (by kernel_rfl) rfl #[.agg #[.int .i64 t435, .int .i64 t436, .int .u64 t437, .string t438]] rfl aO ?_; (with_reducible refine (withylaw03_Ref.calls t435 t436 t437 t438 t447 t448 t449 t450 _ A23.out).mono ?_); rintro e w55 ⟨rfl, hb⟩; refine ⟨_, rfl, ?_⟩; replace BK432 := as_ (blk_below (g := gb432) (o := .cells #[.int .i64 t435, .int .i64 t436, .int .u64 t437, .string t438] 24 (0, 0)) (by refine bx ?_; refine blk_far ?_ NB432_434.out _; refine bx ?_; refine blk_far ?_ NB432_434.out _; refine bx ?_; refine blk_far ?_ NB432_434.out _; refine bx ?_; refine blk_far ?_ NB432_434.out _; refine bx ?_; exact BK432.out) hb); replace BK433 := as_ (blk_below (g := gb433) (o := .cells #[.int .i64 t439, .int .i64 t440, .int .u64 t441, .string t442] 24 (0, 0)) (by refine bx ?_; refine blk_far ?_ NB433_434.out _; refine bx ?_; refine blk_far ?_ NB433_434.out _; refine bx ?_; refine blk_far ?_ NB433_434.out _; refine bx ?_; refine blk_far ?_ NB433_434.out _; refine bx ?_; exact BK433.out) hb); replace BK434 := as_ (blk_below (g := gb434) (o := .cells #[.int .i64 t443, .int .i64 t444, .int .u64 t445, .string t446] 24 (0, 0)) (by refine bx ?_; refine blk_put (cs := #[.int .i64 t443, .int .i64 t444, .int .u64 t445, .string a2_3]) ?_ 3 _ rfl; refine bx ?_; refine blk_put (cs := #[.int .i64 t443, .int .i64 t444, .int .u64 a2_2, .string a2_3]) ?_ 2 _ rfl; refine bx ?_; refine blk_put (cs := #[.int .i64 t443, .int .i64 a2_1, .int .u64 a2_2, .string a2_3]) ?_ 1 _ rfl; refine bx ?_; refine blk_put (cs := #[.int .i64 a2_0, .int .i64 a2_1, .int .u64 a2_2, .string a2_3]) ?_ 0 _ rfl; refine bx ?_; exact BK434.out) hb); replace HB := as_ (below_step bA hb); (try clear hb); (try clear hb2); (try clear hk); (try clear hi)) | ((with_reducible refine gate_callee (f := 16) rfl ?_); refine goesL_ (some 18) rfl rfl Tryd.func16 (by kernel_rfl) rfl #[.agg #[.int .i64 t447, .int .i64 t448, .int .u64 t449, .string t450]] rfl aO ?_; (with_reducible refine (withyref03_Right.calls t447 t448 t449 t450 false _ A24.out).mono ?_); rintro e w56 ⟨rfl, hb⟩; refine ⟨_, rfl, ?_⟩; replace BK432 := bb BK432 hb; replace BK433 := bb BK433 hb; replace BK434 := bb BK434 hb; replace HB := as_ (below_step bA hb); (try clear hb); (try clear hb2); (try clear hk); (try clear hi)))
   go_meet
   case rel => exact ⟨_, (true), (by first | rfl | (simp; done) | (simp [*]; done)), H', ⟨by first | omega | exact Nat.le_refl _⟩, ⟨by refine bx ?_; exact BK432.out⟩, ⟨by refine bx ?_; exact BK433.out⟩, ⟨by refine bx ?_; exact BK434.out⟩, ⟨by repeat (first | (with_reducible first | exact HB.out | apply below_alloc | apply pw_below_drewN | apply below_drew1 | refine below_set ?_ GE432.out | refine below_set ?_ GE433.out | refine below_set ?_ GE434.out) | exact HB.out)⟩⟩
  subst c25
  have H1 : ((withylaw03_Ref.f t439 t440 t441 t442).bind fun bt452 => ((withyref03_Right.f bt452.1 bt452.2.1 bt452.2.2.1 bt452.2.2.2).bind fun t456 => (if t456 = true then ((withylaw03_Ref.f t443 t444 t445 t446).bind fun bt457 => ((withyref03_Right.f bt457.1 bt457.2.1 bt457.2.2.1 bt457.2.2.2).bind fun t461 => (withylaw03_ColThree.j0 k (!t461) t435 t436 t437 t438 t439 t440 t441 t442 t443 t444 t445 t446))) else (withylaw03_ColThree.j0 k true t435 t436 t437 t438 t439 t440 t441 t442 t443 t444 t445 t446)))) = some r := by rw [if_pos rfl] at H; exact H
  clear H
  have H := H1
  clear H1
  replace H := bM H
  obtain ⟨⟨t452, t453, t454, t455⟩, A260, H⟩ := H
  replace H : ((withyref03_Right.f t452 t453 t454 t455).bind fun t456 => (if t456 = true then ((withylaw03_Ref.f t443 t444 t445 t446).bind fun bt457 => ((withyref03_Right.f bt457.1 bt457.2.1 bt457.2.2.1 bt457.2.2.2).bind fun t461 => (withylaw03_ColThree.j0 k (!t461) t435 t436 t437 t438 t439 t440 t441 t442 t443 t444 t445 t446))) else (withylaw03_ColThree.j0 k true t435 t436 t437 t438 t439 t440 t441 t442 t443 t444 t445 t446))) = some r := H
  have A26 := Aside0.mk A260
  clear A260
  replace H := bM H
  obtain ⟨t456, A270, H⟩ := H
  replace H : (if t456 = true then ((withylaw03_Ref.f t443 t444 t445 t446).bind fun bt457 => ((withyref03_Right.f bt457.1 bt457.2.1 bt457.2.2.1 bt457.2.2.2).bind fun t461 => (withylaw03_ColThree.j0 k (!t461) t435 t436 t437 t438 t439 t440 t441 t442 t443 t444 t445 t446))) else (withylaw03_ColThree.j0 k true t435 t436 t437 t438 t439 t440 t441 t442 t443 t444 t445 t446)) = some r := H
  have A27 := Aside0.mk A270
  clear A270
  by_cases c28 : t456 = true
  rotate_left
  ·replace c28 := Bool.eq_false_iff.mpr c28
   subst c28
   have H1 : (withylaw03_ColThree.j0 k true t435 t436 t437 t438 t439 t440 t441 t442 t443 t444 t445 t446) = some r := by rw [if_neg (show ¬ (false = true) by decide)] at H; exact H
   clear H
   have H := H1
   clear H1
   have H' := Aside0.mk H
   clear H
   have hnb43 := NB432_433.out
   have hnc43 := NB433_432.out
   have hnb44 := NB432_434.out
   have hnc44 := NB434_432.out
   obtain ⟨hcz45_0, hcz45_1, hcz45_2, hcz45_3⟩ := zc4 BK432
   obtain ⟨hfz45_0, hfz45_1, hfz45_2, hfz45_3⟩ := zf4 BK432
   go_wp2_with (first | ((with_reducible refine gate_callee (f := 12) rfl ?_); refine goesL_ (some 17) rfl rfl Tryd.func12 (by kernel_rfl) rfl #[.agg #[.int .i64 t435, .int .i64 t436, .int .u64 t437, .string t438]] rfl aO ?_; (with_reducible refine (withylaw03_Ref.calls t435 t436 t437 t438 t447 t448 t449 t450 _ A23.out).mono ?_); rintro e w46 ⟨rfl, hb⟩; refine ⟨_, rfl, ?_⟩; replace BK432 := as_ (blk_below (g := gb432) (o := .cells #[.int .i64 t435, .int .i64 t436, .int .u64 t437, .string t438] 24 (0, 0)) (by refine bx ?_; refine blk_far ?_ NB432_434.out _; refine bx ?_; refine blk_far ?_ NB432_434.out _; refine bx ?_; refine blk_far ?_ NB432_434.out _; refine bx ?_; refine blk_far ?_ NB432_434.out _; refine bx ?_; exact BK432.out) hb); replace BK433 := as_ (blk_below (g := gb433) (o := .cells #[.int .i64 t439, .int .i64 t440, .int .u64 t441, .string t442] 24 (0, 0)) (by refine bx ?_; refine blk_far ?_ NB433_434.out _; refine bx ?_; refine blk_far ?_ NB433_434.out _; refine bx ?_; refine blk_far ?_ NB433_434.out _; refine bx ?_; refine blk_far ?_ NB433_434.out _; refine bx ?_; exact BK433.out) hb); replace BK434 := as_ (blk_below (g := gb434) (o := .cells #[.int .i64 t443, .int .i64 t444, .int .u64 t445, .string t446] 24 (0, 0)) (by refine bx ?_; refine blk_put (cs := #[.int .i64 t443, .int .i64 t444, .int .u64 t445, .string a2_3]) ?_ 3 _ rfl; refine bx ?_; refine blk_put (cs := #[.int .i64 t443, .int .i64 t444, .int .u64 a2_2, .string a2_3]) ?_ 2 _ rfl; refine bx ?_; refine blk_put (cs := #[.int .i64 t443, .int .i64 a2_1, .int .u64 a2_2, .string a2_3]) ?_ 1 _ rfl; refine bx ?_; refine blk_put (cs := #[.int .i64 a2_0, .int .i64 a2_1, .int .u64 a2_2, .string a2_3]) ?_ 0 _ rfl; refine bx ?_; exact BK434.out) hb); replace HB := as_ (below_step bA hb); (try clear hb); (try clear hb2); (try clear hk); (try clear hi)) | ((with_reducible refine gate_callee (f := 16) rfl ?_); refine goesL_ (some 18) rfl rfl Tryd.func16 (by kernel_rfl) rfl #[.agg #[.int .i64 t447, .int .i64 t448, .int .u64 t449, .string t450]] rfl aO ?_; (with_reducible refine (withyref03_Right.calls t447 t448 t449 t450 true _ A24.out).mono ?_); rintro e w47 ⟨rfl, hb⟩; refine ⟨_, rfl, ?_⟩; replace BK432 := bb BK432 hb; replace BK433 := bb BK433 hb; replace BK434 := bb BK434 hb; replace HB := as_ (below_step bA hb); (try clear hb); (try clear hb2); (try clear hk); (try clear hi); have hnb48 := NB433_434.out; have hnc48 := NB434_433.out; obtain ⟨hcz49_0, hcz49_1, hcz49_2, hcz49_3⟩ := zc4 BK433; obtain ⟨hfz49_0, hfz49_1, hfz49_2, hfz49_3⟩ := zf4 BK433) | (go_at_call 12; (with_reducible refine (withylaw03_Ref.calls t439 t440 t441 t442 t452 t453 t454 t455 _ A26.out).mono ?_); rintro e w50 ⟨rfl, hb⟩; replace BK432 := bb BK432 hb; replace BK433 := bb BK433 hb; replace BK434 := bb BK434 hb; replace HB := as_ (below_step bA hb); (try clear hb); (try clear hb2); (try clear hk); (try clear hi)) | (go_at_call 16; (with_reducible refine (withyref03_Right.calls t452 t453 t454 t455 false _ A27.out).mono ?_); rintro e w51 ⟨rfl, hb⟩; replace BK432 := bb BK432 hb; replace BK433 := bb BK433 hb; replace BK434 := bb BK434 hb; replace HB := as_ (below_step bA hb); (try clear hb); (try clear hb2); (try clear hk); (try clear hi)))
   go_meet
   case rel => exact ⟨_, (true), (by first | rfl | (simp; done) | (simp [*]; done)), H', ⟨by first | omega | exact Nat.le_refl _⟩, ⟨by refine bx ?_; exact BK432.out⟩, ⟨by refine bx ?_; exact BK433.out⟩, ⟨by refine bx ?_; exact BK434.out⟩, ⟨by repeat (first | (with_reducible first | exact HB.out | apply below_alloc | apply pw_below_drewN | apply below_drew1 | refine below_set ?_ GE432.out | refine below_set ?_ GE433.out | refine below_set ?_ GE434.out) | exact HB.out)⟩⟩
  subst c28
  have H1 : ((withylaw03_Ref.f t443 t444 t445 t446).bind fun bt457 => ((withyref03_Right.f bt457.1 bt457.2.1 bt457.2.2.1 bt457.2.2.2).bind fun t461 => (withylaw03_ColThree.j0 k (!t461) t435 t436 t437 t438 t439 t440 t441 t442 t443 t444 t445 t446))) = some r := by rw [if_pos rfl] at H; exact H
  clear H
  have H := H1
  clear H1
  replace H := bM H
  obtain ⟨⟨t457, t458, t459, t460⟩, A290, H⟩ := H
  replace H : ((withyref03_Right.f t457 t458 t459 t460).bind fun t461 => (withylaw03_ColThree.j0 k (!t461) t435 t436 t437 t438 t439 t440 t441 t442 t443 t444 t445 t446)) = some r := H
  have A29 := Aside0.mk A290
  clear A290
  replace H := bM H
  obtain ⟨t461, A300, H⟩ := H
  replace H : (withylaw03_ColThree.j0 k (!t461) t435 t436 t437 t438 t439 t440 t441 t442 t443 t444 t445 t446) = some r := H
  have A30 := Aside0.mk A300
  clear A300
  have H' := Aside0.mk H
  clear H
  have hnb31 := NB432_433.out
  have hnc31 := NB433_432.out
  have hnb32 := NB432_434.out
  have hnc32 := NB434_432.out
  obtain ⟨hcz33_0, hcz33_1, hcz33_2, hcz33_3⟩ := zc4 BK432
  obtain ⟨hfz33_0, hfz33_1, hfz33_2, hfz33_3⟩ := zf4 BK432
  go_wp2_with (first | ((with_reducible refine gate_callee (f := 12) rfl ?_); refine goesL_ (some 17) rfl rfl Tryd.func12 (by kernel_rfl) rfl #[.agg #[.int .i64 t435, .int .i64 t436, .int .u64 t437, .string t438]] rfl aO ?_; (with_reducible refine (withylaw03_Ref.calls t435 t436 t437 t438 t447 t448 t449 t450 _ A23.out).mono ?_); rintro e w34 ⟨rfl, hb⟩; refine ⟨_, rfl, ?_⟩; replace BK432 := as_ (blk_below (g := gb432) (o := .cells #[.int .i64 t435, .int .i64 t436, .int .u64 t437, .string t438] 24 (0, 0)) (by refine bx ?_; refine blk_far ?_ NB432_434.out _; refine bx ?_; refine blk_far ?_ NB432_434.out _; refine bx ?_; refine blk_far ?_ NB432_434.out _; refine bx ?_; refine blk_far ?_ NB432_434.out _; refine bx ?_; exact BK432.out) hb); replace BK433 := as_ (blk_below (g := gb433) (o := .cells #[.int .i64 t439, .int .i64 t440, .int .u64 t441, .string t442] 24 (0, 0)) (by refine bx ?_; refine blk_far ?_ NB433_434.out _; refine bx ?_; refine blk_far ?_ NB433_434.out _; refine bx ?_; refine blk_far ?_ NB433_434.out _; refine bx ?_; refine blk_far ?_ NB433_434.out _; refine bx ?_; exact BK433.out) hb); replace BK434 := as_ (blk_below (g := gb434) (o := .cells #[.int .i64 t443, .int .i64 t444, .int .u64 t445, .string t446] 24 (0, 0)) (by refine bx ?_; refine blk_put (cs := #[.int .i64 t443, .int .i64 t444, .int .u64 t445, .string a2_3]) ?_ 3 _ rfl; refine bx ?_; refine blk_put (cs := #[.int .i64 t443, .int .i64 t444, .int .u64 a2_2, .string a2_3]) ?_ 2 _ rfl; refine bx ?_; refine blk_put (cs := #[.int .i64 t443, .int .i64 a2_1, .int .u64 a2_2, .string a2_3]) ?_ 1 _ rfl; refine bx ?_; refine blk_put (cs := #[.int .i64 a2_0, .int .i64 a2_1, .int .u64 a2_2, .string a2_3]) ?_ 0 _ rfl; refine bx ?_; exact BK434.out) hb); replace HB := as_ (below_step bA hb); (try clear hb); (try clear hb2); (try clear hk); (try clear hi)) | ((with_reducible refine gate_callee (f := 16) rfl ?_); refine goesL_ (some 18) rfl rfl Tryd.func16 (by kernel_rfl) rfl #[.agg #[.int .i64 t447, .int .i64 t448, .int .u64 t449, .string t450]] rfl aO ?_; (with_reducible refine (withyref03_Right.calls t447 t448 t449 t450 true _ A24.out).mono ?_); rintro e w35 ⟨rfl, hb⟩; refine ⟨_, rfl, ?_⟩; replace BK432 := bb BK432 hb; replace BK433 := bb BK433 hb; replace BK434 := bb BK434 hb; replace HB := as_ (below_step bA hb); (try clear hb); (try clear hb2); (try clear hk); (try clear hi); have hnb36 := NB433_434.out; have hnc36 := NB434_433.out; obtain ⟨hcz37_0, hcz37_1, hcz37_2, hcz37_3⟩ := zc4 BK433; obtain ⟨hfz37_0, hfz37_1, hfz37_2, hfz37_3⟩ := zf4 BK433) | (go_at_call 12; (with_reducible refine (withylaw03_Ref.calls t439 t440 t441 t442 t452 t453 t454 t455 _ A26.out).mono ?_); rintro e w38 ⟨rfl, hb⟩; replace BK432 := bb BK432 hb; replace BK433 := bb BK433 hb; replace BK434 := bb BK434 hb; replace HB := as_ (below_step bA hb); (try clear hb); (try clear hb2); (try clear hk); (try clear hi)) | (go_at_call 16; (with_reducible refine (withyref03_Right.calls t452 t453 t454 t455 true _ A27.out).mono ?_); rintro e w39 ⟨rfl, hb⟩; replace BK432 := bb BK432 hb; replace BK433 := bb BK433 hb; replace BK434 := bb BK434 hb; replace HB := as_ (below_step bA hb); (try clear hb); (try clear hb2); (try clear hk); (try clear hi); obtain ⟨hcz40_0, hcz40_1, hcz40_2, hcz40_3⟩ := zc4 BK434; obtain ⟨hfz40_0, hfz40_1, hfz40_2, hfz40_3⟩ := zf4 BK434) | (go_at_call 12; (with_reducible refine (withylaw03_Ref.calls t443 t444 t445 t446 t457 t458 t459 t460 _ A29.out).mono ?_); rintro e w41 ⟨rfl, hb⟩; replace BK432 := bb BK432 hb; replace BK433 := bb BK433 hb; replace BK434 := bb BK434 hb; replace HB := as_ (below_step bA hb); (try clear hb); (try clear hb2); (try clear hk); (try clear hi)) | (go_at_call 16; (with_reducible refine (withyref03_Right.calls t457 t458 t459 t460 t461 _ A30.out).mono ?_); rintro e w42 ⟨rfl, hb⟩; replace BK432 := bb BK432 hb; replace BK433 := bb BK433 hb; replace BK434 := bb BK434 hb; replace HB := as_ (below_step bA hb); (try clear hb); (try clear hb2); (try clear hk); (try clear hi)))
  go_meet
  case rel => exact ⟨_, (!t461), (by first | rfl | (simp; done) | (simp [*]; done)), H', ⟨by first | omega | exact Nat.le_refl _⟩, ⟨by refine bx ?_; exact BK432.out⟩, ⟨by refine bx ?_; exact BK433.out⟩, ⟨by refine bx ?_; exact BK434.out⟩, ⟨by repeat (first | (with_reducible first | exact HB.out | apply below_alloc | apply pw_below_drewN | apply below_drew1 | refine below_set ?_ GE432.out | refine below_set ?_ GE433.out | refine below_set ?_ GE434.out) | exact HB.out)⟩⟩
 case rest =>
  clear HC7
  try clear c1
  try clear c2
  try clear p2
  try clear c3
  try clear c4
  try clear c5
  try clear c7
  try clear c9
  try clear c11
  try clear c12
  try clear c16
  try clear c25
  try clear c28
  try clear c31
  try clear c32
  try clear c36
  try clear c43
  try clear c44
  try clear c48
  try clear c52
  try clear c53
  try clear hcz13_0
  try clear hcz13_1
  try clear hcz13_2
  try clear hcz13_3
  try clear hcz15_0
  try clear hcz15_1
  try clear hcz15_2
  try clear hcz15_3
  try clear hcz17_0
  try clear hcz17_1
  try clear hcz17_2
  try clear hcz17_3
  try clear hcz19_0
  try clear hcz19_1
  try clear hcz19_2
  try clear hcz19_3
  try clear hcz20_0
  try clear hcz20_1
  try clear hcz20_2
  try clear hcz20_3
  try clear hcz22_0
  try clear hcz22_1
  try clear hcz22_2
  try clear hcz22_3
  try clear hcz33_0
  try clear hcz33_1
  try clear hcz33_2
  try clear hcz33_3
  try clear hcz37_0
  try clear hcz37_1
  try clear hcz37_2
  try clear hcz37_3
  try clear hcz40_0
  try clear hcz40_1
  try clear hcz40_2
  try clear hcz40_3
  try clear hcz45_0
  try clear hcz45_1
  try clear hcz45_2
  try clear hcz45_3
  try clear hcz49_0
  try clear hcz49_1
  try clear hcz49_2
  try clear hcz49_3
  try clear hcz54_0
  try clear hcz54_1
  try clear hcz54_2
  try clear hcz54_3
  try clear hfz13_0
  try clear hfz13_1
  try clear hfz13_2
  try clear hfz13_3
  try clear hfz15_0
  try clear hfz15_1
  try clear hfz15_2
  try clear hfz15_3
  try clear hfz17_0
  try clear hfz17_1
  try clear hfz17_2
  try clear hfz17_3
  try clear hfz19_0
  try clear hfz19_1
  try clear hfz19_2
  try clear hfz19_3
  try clear hfz20_0
  try clear hfz20_1
  try clear hfz20_2
  try clear hfz20_3
  try clear hfz22_0
  try clear hfz22_1
  try clear hfz22_2
  try clear hfz22_3
  try clear hfz33_0
  try clear hfz33_1
  try clear hfz33_2
  try clear hfz33_3
  try clear hfz37_0
  try clear hfz37_1
  try clear hfz37_2
  try clear hfz37_3
  try clear hfz40_0
  try clear hfz40_1
  try clear hfz40_2
  try clear hfz40_3
  try clear hfz45_0
  try clear hfz45_1
  try clear hfz45_2
  try clear hfz45_3
  try clear hfz49_0
  try clear hfz49_1
  try clear hfz49_2
  try clear hfz49_3
  try clear hfz54_0
  try clear hfz54_1
  try clear hfz54_2
  try clear hfz54_3
  obtain ⟨kq, x31_6, rfl, HA, HJ6, BK432, BK433, BK434, HB⟩ := hcut
  cases kq with
  | zero => exact absurd HA.out (by simp [withylaw03_ColThree.j0])
  | succ kj6 =>
   have H := HA.out
   clear HA
   simp only [withylaw03_ColThree.j0] at H
   by_cases c57 : x31_6 = true
   ·subst c57
    have H1 : ((withylaw03_fixed.f kj6).bind fun t462 => (some t462)) = some r := by rw [if_pos rfl] at H; exact H
    clear H
    have H := H1
    clear H1
    replace H := bM H
    obtain ⟨t462, A580, H⟩ := H
    replace H : (some t462) = some r := H
    have A58 := Aside0.mk A580
    clear A580
    obtain rfl := Option.some.inj H
    go_wp2_with (first | ((with_reducible refine gate_callee (f := 19) rfl ?_); refine goesL_ (some 32) rfl rfl Tryd.func19 (by kernel_rfl) rfl #[] rfl aO ?_; (with_reducible refine (withylaw03_fixed.calls kj6  t462 _ A58.out).mono ?_); rintro e w59 ⟨rfl, hb⟩; refine ⟨_, rfl, ?_⟩; replace BK432 := bb BK432 hb; replace BK433 := bb BK433 hb; replace BK434 := bb BK434 hb; replace HB := as_ (below_step bA hb); (try clear hb); (try clear hb2); (try clear hk); (try clear hi)))
    go_ret
    exact ⟨eW, by repeat (first | (with_reducible first | exact HB.out | apply below_alloc | apply pw_below_drewN | apply below_drew1 | refine below_set ?_ GE432.out | refine below_set ?_ GE433.out | refine below_set ?_ GE434.out) | exact HB.out)⟩
   replace c57 := Bool.eq_false_iff.mpr c57
   subst c57
   have H1 : ((col_Compare.f kj6 t435 t436 t437 t438 t439 t440 t441 t442).bind fun t463 => ((col_Compare.f kj6 t439 t440 t441 t442 t443 t444 t445 t446).bind fun t464 => ((col_Compare.f kj6 t435 t436 t437 t438 t443 t444 t445 t446).bind fun t465 => (if t463 < (-1) then (withylaw03_ColThree.j1 kj6 t463 t464 t465 true t435 t436 t437 t438) else (if t463 > 1 then (withylaw03_ColThree.j1 kj6 t463 t464 t465 true t435 t436 t437 t438) else ((col_Compare.f kj6 t439 t440 t441 t442 t435 t436 t437 t438).bind fun t466 => (if t466 = (wrap64 (-t463)) then (withylaw03_ColThree.j1 kj6 t463 t464 t465 ((t463 == 0) != (t435 == t439 && (t436 == t440 && (t437 == t441 && (t438.toList == t442.toList))))) t435 t436 t437 t438) else (withylaw03_ColThree.j1 kj6 t463 t464 t465 true t435 t436 t437 t438)))))))) = some r := by rw [if_neg (show ¬ (false = true) by decide)] at H; exact H
   clear H
   have H := H1
   clear H1
   replace H := bM H
   obtain ⟨t463, A600, H⟩ := H
   replace H : ((col_Compare.f kj6 t439 t440 t441 t442 t443 t444 t445 t446).bind fun t464 => ((col_Compare.f kj6 t435 t436 t437 t438 t443 t444 t445 t446).bind fun t465 => (if t463 < (-1) then (withylaw03_ColThree.j1 kj6 t463 t464 t465 true t435 t436 t437 t438) else (if t463 > 1 then (withylaw03_ColThree.j1 kj6 t463 t464 t465 true t435 t436 t437 t438) else ((col_Compare.f kj6 t439 t440 t441 t442 t435 t436 t437 t438).bind fun t466 => (if t466 = (wrap64 (-t463)) then (withylaw03_ColThree.j1 kj6 t463 t464 t465 ((t463 == 0) != (t435 == t439 && (t436 == t440 && (t437 == t441 && (t438.toList == t442.toList))))) t435 t436 t437 t438) else (withylaw03_ColThree.j1 kj6 t463 t464 t465 true t435 t436 t437 t438))))))) = some r := H
   have A60 := Aside0.mk A600
   clear A600
   replace H := bM H
   obtain ⟨t464, A610, H⟩ := H
   replace H : ((col_Compare.f kj6 t435 t436 t437 t438 t443 t444 t445 t446).bind fun t465 => (if t463 < (-1) then (withylaw03_ColThree.j1 kj6 t463 t464 t465 true t435 t436 t437 t438) else (if t463 > 1 then (withylaw03_ColThree.j1 kj6 t463 t464 t465 true t435 t436 t437 t438) else ((col_Compare.f kj6 t439 t440 t441 t442 t435 t436 t437 t438).bind fun t466 => (if t466 = (wrap64 (-t463)) then (withylaw03_ColThree.j1 kj6 t463 t464 t465 ((t463 == 0) != (t435 == t439 && (t436 == t440 && (t437 == t441 && (t438.toList == t442.toList))))) t435 t436 t437 t438) else (withylaw03_ColThree.j1 kj6 t463 t464 t465 true t435 t436 t437 t438)))))) = some r := H
   have A61 := Aside0.mk A610
   clear A610
   replace H := bM H
   obtain ⟨t465, A620, H⟩ := H
   replace H : (if t463 < (-1) then (withylaw03_ColThree.j1 kj6 t463 t464 t465 true t435 t436 t437 t438) else (if t463 > 1 then (withylaw03_ColThree.j1 kj6 t463 t464 t465 true t435 t436 t437 t438) else ((col_Compare.f kj6 t439 t440 t441 t442 t435 t436 t437 t438).bind fun t466 => (if t466 = (wrap64 (-t463)) then (withylaw03_ColThree.j1 kj6 t463 t464 t465 ((t463 == 0) != (t435 == t439 && (t436 == t440 && (t437 == t441 && (t438.toList == t442.toList))))) t435 t436 t437 t438) else (withylaw03_ColThree.j1 kj6 t463 t464 t465 true t435 t436 t437 t438))))) = some r := H
   have A62 := Aside0.mk A620
   clear A620
   have HC63 := Aside0.mk H
   clear H
   try go_wp2
   replace BK432 := as_ (blk_drew BK432.out)
   replace BK433 := as_ (blk_drew BK433.out)
   replace BK434 := as_ (blk_drew BK434.out)
   replace HB := as_ (below_drew1 HB.out)
   refine start_ (n := 12) (S := fun w' => w'.cell? ⟨gb432, 0, none⟩ = some (.int .i64 t435) ∧ w'.cell? ⟨gb432, 1, none⟩ = some (.int .i64 t436) ∧ w'.cell? ⟨gb432, 2, none⟩ = some (.int .u64 t437) ∧ w'.cell? ⟨gb432, 3, none⟩ = some (.string t438) ∧ w'.cell? ⟨gb433, 0, none⟩ = some (.int .i64 t439) ∧ w'.cell? ⟨gb433, 1, none⟩ = some (.int .i64 t440) ∧ w'.cell? ⟨gb433, 2, none⟩ = some (.int .u64 t441) ∧ w'.cell? ⟨gb433, 3, none⟩ = some (.string t442) ∧ w'.cell? ⟨gb434, 0, none⟩ = some (.int .i64 t443) ∧ w'.cell? ⟨gb434, 1, none⟩ = some (.int .i64 t444) ∧ w'.cell? ⟨gb434, 2, none⟩ = some (.int .u64 t445) ∧ w'.cell? ⟨gb434, 3, none⟩ = some (.string t446)) (ds := []) #[ff, ff, ff, ff, ff, ff, ff, ff, ff, ff, ff, ff] (by kernel_rfl) rfl rfl ⟨(blk_cell BK432.out 0).trans rfl, (blk_cell BK432.out 1).trans rfl, (blk_cell BK432.out 2).trans rfl, (blk_cell BK432.out 3).trans rfl, (blk_cell BK433.out 0).trans rfl, (blk_cell BK433.out 1).trans rfl, (blk_cell BK433.out 2).trans rfl, (blk_cell BK433.out 3).trans rfl, (blk_cell BK434.out 0).trans rfl, (blk_cell BK434.out 1).trans rfl, (blk_cell BK434.out 2).trans rfl, (blk_cell BK434.out 3).trans rfl⟩ (fun hHeld => ?_); refine with_tabW withylaw03_ColThree.tab6 withylaw03_ColThree.bits6 (fun HT_ HW_ => ?_)
   generalize wc.drew = w64 at BK432 BK433 BK434 HB hHeld ⊢
   refine take_ (i := 0) (N := some 33) (v := ?_) (a' := ?_) #[tt, ff, ff, ff, ff, ff, ff, ff, ff, ff, ff, ff] rfl rfl (take_ofW HT_.out HW_.out (by kernel_rfl)) (fun _ _ _ h => h) (Or.inl ⟨by rfl, ?_⟩) hHeld ?_ ?_
   rotate_left
   ·rintro w' ⟨s0, s1, s2, s3, s4, s5, s6, s7, s8, s9, s10, s11⟩
    go_simp
    with_reducible rfl
   rotate_left
   ·exact aP
   refine take_ (i := 1) (N := some 34) (v := ?_) (a' := ?_) #[tt, tt, ff, ff, ff, ff, ff, ff, ff, ff, ff, ff] rfl rfl (take_ofW HT_.out HW_.out (by kernel_rfl)) (fun _ _ _ h => h) (Or.inl ⟨by rfl, ?_⟩) hHeld ?_ ?_
   rotate_left
   ·rintro w' ⟨s0, s1, s2, s3, s4, s5, s6, s7, s8, s9, s10, s11⟩
    go_simp
    with_reducible rfl
   rotate_left
   ·exact aP
   refine take_ (i := 3) (N := some 36) (v := ?_) (a' := ?_) #[tt, tt, ff, tt, ff, ff, ff, ff, ff, ff, ff, ff] rfl rfl (take_ofW HT_.out HW_.out (by kernel_rfl)) (fun _ _ _ h => h) (Or.inl ⟨by rfl, ?_⟩) hHeld ?_ ?_
   rotate_left
   ·rintro w' ⟨s0, s1, s2, s3, s4, s5, s6, s7, s8, s9, s10, s11⟩
    go_simp
    with_reducible rfl
   rotate_left
   ·exact aP
   refine take_ (i := 4) (N := some 37) (v := ?_) (a' := ?_) #[tt, tt, ff, tt, tt, ff, ff, ff, ff, ff, ff, ff] rfl rfl (take_ofW HT_.out HW_.out (by kernel_rfl)) (fun _ _ _ h => h) (Or.inl ⟨by rfl, ?_⟩) hHeld ?_ ?_
   rotate_left
   ·rintro w' ⟨s0, s1, s2, s3, s4, s5, s6, s7, s8, s9, s10, s11⟩
    go_simp
    with_reducible rfl
   rotate_left
   ·exact aP
   refine take_ (i := 6) (N := some 39) (v := ?_) (a' := ?_) #[tt, tt, ff, tt, tt, ff, tt, ff, ff, ff, ff, ff] rfl rfl (take_ofW HT_.out HW_.out (by kernel_rfl)) (fun _ _ _ h => h) (Or.inl ⟨by rfl, ?_⟩) hHeld ?_ ?_
   rotate_left
   ·rintro w' ⟨s0, s1, s2, s3, s4, s5, s6, s7, s8, s9, s10, s11⟩
    go_simp
    with_reducible rfl
   rotate_left
   ·exact aP
   refine take_ (i := 7) (N := some 40) (v := ?_) (a' := ?_) #[tt, tt, ff, tt, tt, ff, tt, tt, ff, ff, ff, ff] rfl rfl (take_ofW HT_.out HW_.out (by kernel_rfl)) (fun _ _ _ h => h) (Or.inl ⟨by rfl, ?_⟩) hHeld ?_ ?_
   rotate_left
   ·rintro w' ⟨s0, s1, s2, s3, s4, s5, s6, s7, s8, s9, s10, s11⟩
    go_simp
    with_reducible rfl
   rotate_left
   ·exact aP
   refine one_ (i := 2) (N := some 35) #[tt, tt, tt, tt, tt, ff, tt, tt, ff, ff, ff, ff] rfl rfl (one_of HT_.out (by kernel_rfl)) (by decide) (fun K hK => ?_)
   refine goes_ Tryd.func17 (by kernel_rfl) rfl #[.agg #[.int .i64 t435, .int .i64 t436, .int .u64 t437, .string t438], .agg #[.int .i64 t439, .int .i64 t440, .int .u64 t441, .string t442]] (by rfl) rfl rfl aO ?_
   with_reducible refine (col_Compare.calls kj6 t435 t436 t437 t438 t439 t440 t441 t442 t463 _ A60.out).mono ?_
   rintro e w65 ⟨rfl, hb⟩
   refine ⟨_, rfl, ?_⟩
   replace BK432 := bb BK432 hb
   replace BK433 := bb BK433 hb
   replace BK434 := bb BK434 hb
   replace HB := as_ (below_step bA hb)
   (try clear hb)
   (try clear hb2)
   (try clear hk)
   (try clear hi)
   refine hK.out _ _ ⟨(blk_cell BK432.out 0).trans rfl, (blk_cell BK432.out 1).trans rfl, (blk_cell BK432.out 2).trans rfl, (blk_cell BK432.out 3).trans rfl, (blk_cell BK433.out 0).trans rfl, (blk_cell BK433.out 1).trans rfl, (blk_cell BK433.out 2).trans rfl, (blk_cell BK433.out 3).trans rfl, (blk_cell BK434.out 0).trans rfl, (blk_cell BK434.out 1).trans rfl, (blk_cell BK434.out 2).trans rfl, (blk_cell BK434.out 3).trans rfl⟩ (fun hHeld => ?_)
   clear hK K
   refine norm_ (a' := ?_) ?_ ?_
   rotate_left
   ·show Act.put _ (some 35) _ = _
    simp only [Act.put, List.setIfInBounds_toArray, List.set_cons_zero, List.set_cons_succ, i64_w, i32_w]
    rfl
   refine one_ (i := 5) (N := some 38) #[tt, tt, tt, tt, tt, tt, tt, tt, ff, ff, ff, ff] rfl rfl (one_of HT_.out (by kernel_rfl)) (by decide) (fun K hK => ?_)
   refine goes_ Tryd.func17 (by kernel_rfl) rfl #[.agg #[.int .i64 t439, .int .i64 t440, .int .u64 t441, .string t442], .agg #[.int .i64 t443, .int .i64 t444, .int .u64 t445, .string t446]] (by rfl) rfl rfl aO ?_
   with_reducible refine (col_Compare.calls kj6 t439 t440 t441 t442 t443 t444 t445 t446 t464 _ A61.out).mono ?_
   rintro e w66 ⟨rfl, hb⟩
   refine ⟨_, rfl, ?_⟩
   replace BK432 := bb BK432 hb
   replace BK433 := bb BK433 hb
   replace BK434 := bb BK434 hb
   replace HB := as_ (below_step bA hb)
   (try clear hb)
   (try clear hb2)
   (try clear hk)
   (try clear hi)
   refine hK.out _ _ ⟨(blk_cell BK432.out 0).trans rfl, (blk_cell BK432.out 1).trans rfl, (blk_cell BK432.out 2).trans rfl, (blk_cell BK432.out 3).trans rfl, (blk_cell BK433.out 0).trans rfl, (blk_cell BK433.out 1).trans rfl, (blk_cell BK433.out 2).trans rfl, (blk_cell BK433.out 3).trans rfl, (blk_cell BK434.out 0).trans rfl, (blk_cell BK434.out 1).trans rfl, (blk_cell BK434.out 2).trans rfl, (blk_cell BK434.out 3).trans rfl⟩ (fun hHeld => ?_)
   clear hK K
   refine norm_ (a' := ?_) ?_ ?_
   rotate_left
   ·show Act.put _ (some 38) _ = _
    simp only [Act.put, List.setIfInBounds_toArray, List.set_cons_zero, List.set_cons_succ, i64_w, i32_w]
    rfl
   refine one_ (i := 8) (N := some 41) #[tt, tt, tt, tt, tt, tt, tt, tt, tt, ff, ff, ff] rfl rfl (one_of HT_.out (by kernel_rfl)) (by decide) (fun K hK => ?_)
   refine goes_ Tryd.func17 (by kernel_rfl) rfl #[.agg #[.int .i64 t435, .int .i64 t436, .int .u64 t437, .string t438], .agg #[.int .i64 t443, .int .i64 t444, .int .u64 t445, .string t446]] (by rfl) rfl rfl aO ?_
   with_reducible refine (col_Compare.calls kj6 t435 t436 t437 t438 t443 t444 t445 t446 t465 _ A62.out).mono ?_
   rintro e w67 ⟨rfl, hb⟩
   refine ⟨_, rfl, ?_⟩
   replace BK432 := bb BK432 hb
   replace BK433 := bb BK433 hb
   replace BK434 := bb BK434 hb
   replace HB := as_ (below_step bA hb)
   (try clear hb)
   (try clear hb2)
   (try clear hk)
   (try clear hi)
   refine hK.out _ _ ⟨(blk_cell BK432.out 0).trans rfl, (blk_cell BK432.out 1).trans rfl, (blk_cell BK432.out 2).trans rfl, (blk_cell BK432.out 3).trans rfl, (blk_cell BK433.out 0).trans rfl, (blk_cell BK433.out 1).trans rfl, (blk_cell BK433.out 2).trans rfl, (blk_cell BK433.out 3).trans rfl, (blk_cell BK434.out 0).trans rfl, (blk_cell BK434.out 1).trans rfl, (blk_cell BK434.out 2).trans rfl, (blk_cell BK434.out 3).trans rfl⟩ (fun hHeld => ?_)
   clear hK K
   refine norm_ (a' := ?_) ?_ ?_
   rotate_left
   ·show Act.put _ (some 41) _ = _
    simp only [Act.put, List.setIfInBounds_toArray, List.set_cons_zero, List.set_cons_succ, i64_w, i32_w]
    rfl
   refine pure_ (i := 9) (N := some 7) (v := ?_) (a' := ?_) #[tt, tt, tt, tt, tt, tt, tt, tt, tt, tt, ff, ff] rfl rfl (any_of HT_.out (by kernel_rfl)) (fun _ _ _ h => h) (Or.inl ⟨by rfl, ?_⟩) ?_ ?_
   rotate_left
   ·intro w'
    go_simp
    with_reducible rfl
   rotate_left
   ·exact aP
   refine pure_ (i := 10) (N := some 8) (v := ?_) (a' := ?_) #[tt, tt, tt, tt, tt, tt, tt, tt, tt, tt, tt, ff] rfl rfl (any_of HT_.out (by kernel_rfl)) (fun _ _ _ h => h) (Or.inl ⟨by rfl, ?_⟩) ?_ ?_
   rotate_left
   ·intro w'
    go_simp
    with_reducible rfl
   rotate_left
   ·exact aP
   refine pure_ (i := 11) (N := some 9) (v := ?_) (a' := ?_) #[tt, tt, tt, tt, tt, tt, tt, tt, tt, tt, tt, tt] rfl rfl (any_of HT_.out (by kernel_rfl)) (fun _ _ _ h => h) (Or.inl ⟨by rfl, ?_⟩) ?_ ?_
   rotate_left
   ·intro w'
    go_simp
    with_reducible rfl
   rotate_left
   ·exact aP
   refine done_ (done_of HT_.out (by kernel_rfl)) ?_
   go_upto_region 7 with (fail)
   go_cut [63] (fun v63 wc => ∃ (kq : Nat) (x63_62 : Bool), v63 = .bool x63_62 ∧ Aside0 (withylaw03_ColThree.j1 kq t463 t464 t465 x63_62 t435 t436 t437 t438 = some r) ∧ Aside0 (kq ≤ kj6) ∧ Aside0 (wc.heap[gb432]? = some (.cells #[.int .i64 t435, .int .i64 t436, .int .u64 t437, .string t438] 24 (0, 0))) ∧ Aside0 (wc.heap[gb433]? = some (.cells #[.int .i64 t439, .int .i64 t440, .int .u64 t441, .string t442] 24 (0, 0))) ∧ Aside0 (wc.heap[gb434]? = some (.cells #[.int .i64 t443, .int .i64 t444, .int .u64 t445, .string t446] 24 (0, 0))) ∧ Aside0 (Below w.heap.size w wc))
   case first =>
    have H := HC63.out
    clear HC63
    by_cases c68 : t463 < (-1)
    ·rw [if_pos c68] at H
     have c68b0 : decide (t463 < (-1)) = true := decide_eq_true c68
     clear c68
     (first | rw [c68b0] | (simp only [i64_w, i32_w]; rw [c68b0]) | rw [c68b1] | skip)
     have H' := Aside0.mk H
     clear H
     go_wp2
     go_meet
     case rel => exact ⟨_, (true), (by first | rfl | (simp; done) | (simp [*]; done)), H', ⟨by have := HJ6.out; first | omega | exact Nat.le_refl _⟩, ⟨by refine bx ?_; exact BK432.out⟩, ⟨by refine bx ?_; exact BK433.out⟩, ⟨by refine bx ?_; exact BK434.out⟩, ⟨by repeat (first | (with_reducible first | exact HB.out | apply below_alloc | apply pw_below_drewN | apply below_drew1 | refine below_set ?_ GE432.out | refine below_set ?_ GE433.out | refine below_set ?_ GE434.out) | exact HB.out)⟩⟩
    rw [if_neg c68] at H
    have c68b0 : decide (t463 < (-1)) = false := decide_eq_false c68
    clear c68
    (first | rw [c68b0] | (simp only [i64_w, i32_w]; rw [c68b0]) | rw [c68b1] | skip)
    by_cases c69 : t463 > 1
    ·rw [if_pos c69] at H
     have c69b0 : decide (1 < t463) = true := decide_eq_true c69
     clear c69
     have H' := Aside0.mk H
     clear H
     go_wp2
     go_meet
     case rel => exact ⟨_, (true), (by first | rfl | (simp; done) | (simp [*]; done)), H', ⟨by have := HJ6.out; first | omega | exact Nat.le_refl _⟩, ⟨by refine bx ?_; exact BK432.out⟩, ⟨by refine bx ?_; exact BK433.out⟩, ⟨by refine bx ?_; exact BK434.out⟩, ⟨by repeat (first | (with_reducible first | exact HB.out | apply below_alloc | apply pw_below_drewN | apply below_drew1 | refine below_set ?_ GE432.out | refine below_set ?_ GE433.out | refine below_set ?_ GE434.out) | exact HB.out)⟩⟩
    rw [if_neg c69] at H
    have c69b0 : decide (1 < t463) = false := decide_eq_false c69
    clear c69
    replace H := bM H
    obtain ⟨t466, A700, H⟩ := H
    replace H : (if t466 = (wrap64 (-t463)) then (withylaw03_ColThree.j1 kj6 t463 t464 t465 ((t463 == 0) != (t435 == t439 && (t436 == t440 && (t437 == t441 && (t438.toList == t442.toList))))) t435 t436 t437 t438) else (withylaw03_ColThree.j1 kj6 t463 t464 t465 true t435 t436 t437 t438)) = some r := H
    have A70 := Aside0.mk A700
    clear A700
    by_cases c71 : t466 = (wrap64 (-t463))
    rotate_left
    ·rw [if_neg c71] at H
     have c71b0 : (t466 == (wrap64 (-t463))) = false := beq_eq_false_iff_ne.mpr c71
     have c71b1 : (t466 != (wrap64 (-t463))) = true := bne_iff_ne.mpr c71
     have H' := Aside0.mk H
     clear H
     have hnb80 := NB433_432.out
     have hnc80 := NB432_433.out
     have hnb81 := NB433_434.out
     have hnc81 := NB434_433.out
     obtain ⟨hcz82_0, hcz82_1, hcz82_2, hcz82_3⟩ := zc4 BK433
     obtain ⟨hfz82_0, hfz82_1, hfz82_2, hfz82_3⟩ := zf4 BK433
     have hnb83 := NB432_434.out
     have hnc83 := NB434_432.out
     obtain ⟨hcz84_0, hcz84_1, hcz84_2, hcz84_3⟩ := zc4 BK432
     obtain ⟨hfz84_0, hfz84_1, hfz84_2, hfz84_3⟩ := zf4 BK432
     go_wp2_with (first | (go_at_call 17; (with_reducible refine (col_Compare.calls kj6 t439 t440 t441 t442 t435 t436 t437 t438 t466 _ A70.out).mono ?_); rintro e w85 ⟨rfl, hb⟩; replace BK432 := bb BK432 hb; replace BK433 := bb BK433 hb; replace BK434 := bb BK434 hb; replace HB := as_ (below_step bA hb); (try clear hb); (try clear hb2); (try clear hk); (try clear hi)))
     go_meet
     case rel => exact ⟨_, (true), (by first | rfl | (simp; done) | (simp [*]; done)), H', ⟨by have := HJ6.out; first | omega | exact Nat.le_refl _⟩, ⟨by refine bx ?_; exact BK432.out⟩, ⟨by refine bx ?_; exact BK433.out⟩, ⟨by refine bx ?_; exact BK434.out⟩, ⟨by repeat (first | (with_reducible first | exact HB.out | apply below_alloc | apply pw_below_drewN | apply below_drew1 | refine below_set ?_ GE432.out | refine below_set ?_ GE433.out | refine below_set ?_ GE434.out) | exact HB.out)⟩⟩
    rw [if_pos c71] at H
    have c71b0 : (t466 == (wrap64 (-t463))) = true := beq_iff_eq.mpr c71
    have c71b1 : (t466 != (wrap64 (-t463))) = false := bne_eq_false_iff_eq.mpr c71
    clear c71
    have H' := Aside0.mk H
    clear H
    have hnb72 := NB433_432.out
    have hnc72 := NB432_433.out
    have hnb73 := NB433_434.out
    have hnc73 := NB434_433.out
    obtain ⟨hcz74_0, hcz74_1, hcz74_2, hcz74_3⟩ := zc4 BK433
    obtain ⟨hfz74_0, hfz74_1, hfz74_2, hfz74_3⟩ := zf4 BK433
    have hnb75 := NB432_434.out
    have hnc75 := NB434_432.out
    obtain ⟨hcz76_0, hcz76_1, hcz76_2, hcz76_3⟩ := zc4 BK432
    obtain ⟨hfz76_0, hfz76_1, hfz76_2, hfz76_3⟩ := zf4 BK432
    go_wp2_with (first | (go_at_call 17; (with_reducible refine (col_Compare.calls kj6 t439 t440 t441 t442 t435 t436 t437 t438 t466 _ A70.out).mono ?_); rintro e w77 ⟨rfl, hb⟩; replace BK432 := bb BK432 hb; replace BK433 := bb BK433 hb; replace BK434 := bb BK434 hb; replace HB := as_ (below_step bA hb); (try clear hb); (try clear hb2); (try clear hk); (try clear hi); obtain ⟨hcz78_0, hcz78_1, hcz78_2, hcz78_3⟩ := zc4 BK432; obtain ⟨hfz78_0, hfz78_1, hfz78_2, hfz78_3⟩ := zf4 BK432; obtain ⟨hcz79_0, hcz79_1, hcz79_2, hcz79_3⟩ := zc4 BK433; obtain ⟨hfz79_0, hfz79_1, hfz79_2, hfz79_3⟩ := zf4 BK433))
    go_meet
    case rel => exact ⟨_, (((t463 == 0) != (t435 == t439 && (t436 == t440 && (t437 == t441 && (t438.toList == t442.toList)))))), (by first | rfl | (simp; done) | (simp [*]; done)), H', ⟨by have := HJ6.out; first | omega | exact Nat.le_refl _⟩, ⟨by refine bx ?_; exact BK432.out⟩, ⟨by refine bx ?_; exact BK433.out⟩, ⟨by refine bx ?_; exact BK434.out⟩, ⟨by repeat (first | (with_reducible first | exact HB.out | apply below_alloc | apply pw_below_drewN | apply below_drew1 | refine below_set ?_ GE432.out | refine below_set ?_ GE433.out | refine below_set ?_ GE434.out) | exact HB.out)⟩⟩
   case rest =>
    clear HC63
    try clear c1
    try clear c2
    try clear p2
    try clear c3
    try clear c4
    try clear c5
    try clear c6
    try clear p6
    try clear c7
    try clear c8
    try clear c9
    try clear c11
    try clear c12
    try clear c16
    try clear c17
    try clear c19
    try clear c25
    try clear c28
    try clear c31
    try clear c32
    try clear c36
    try clear c43
    try clear c44
    try clear c48
    try clear c52
    try clear c53
    try clear c57
    try clear p64
    try clear c68
    try clear c68b0
    try clear c68b1
    try clear c69
    try clear c69b0
    try clear c71
    try clear c71b0
    try clear c71b1
    try clear c72
    try clear c73
    try clear c75
    try clear c80
    try clear c81
    try clear c83
    try clear hcz13_0
    try clear hcz13_1
    try clear hcz13_2
    try clear hcz13_3
    try clear hcz15_0
    try clear hcz15_1
    try clear hcz15_2
    try clear hcz15_3
    try clear hcz17_0
    try clear hcz17_1
    try clear hcz17_2
    try clear hcz17_3
    try clear hcz19_0
    try clear hcz19_1
    try clear hcz19_2
    try clear hcz19_3
    try clear hcz20_0
    try clear hcz20_1
    try clear hcz20_2
    try clear hcz20_3
    try clear hcz22_0
    try clear hcz22_1
    try clear hcz22_2
    try clear hcz22_3
    try clear hcz33_0
    try clear hcz33_1
    try clear hcz33_2
    try clear hcz33_3
    try clear hcz37_0
    try clear hcz37_1
    try clear hcz37_2
    try clear hcz37_3
    try clear hcz40_0
    try clear hcz40_1
    try clear hcz40_2
    try clear hcz40_3
    try clear hcz45_0
    try clear hcz45_1
    try clear hcz45_2
    try clear hcz45_3
    try clear hcz49_0
    try clear hcz49_1
    try clear hcz49_2
    try clear hcz49_3
    try clear hcz54_0
    try clear hcz54_1
    try clear hcz54_2
    try clear hcz54_3
    try clear hcz74_0
    try clear hcz74_1
    try clear hcz74_2
    try clear hcz74_3
    try clear hcz76_0
    try clear hcz76_1
    try clear hcz76_2
    try clear hcz76_3
    try clear hcz78_0
    try clear hcz78_1
    try clear hcz78_2
    try clear hcz78_3
    try clear hcz79_0
    try clear hcz79_1
    try clear hcz79_2
    try clear hcz79_3
    try clear hcz82_0
    try clear hcz82_1
    try clear hcz82_2
    try clear hcz82_3
    try clear hcz84_0
    try clear hcz84_1
    try clear hcz84_2
    try clear hcz84_3
    try clear hfz13_0
    try clear hfz13_1
    try clear hfz13_2
    try clear hfz13_3
    try clear hfz15_0
    try clear hfz15_1
    try clear hfz15_2
    try clear hfz15_3
    try clear hfz17_0
    try clear hfz17_1
    try clear hfz17_2
    try clear hfz17_3
    try clear hfz19_0
    try clear hfz19_1
    try clear hfz19_2
    try clear hfz19_3
    try clear hfz20_0
    try clear hfz20_1
    try clear hfz20_2
    try clear hfz20_3
    try clear hfz22_0
    try clear hfz22_1
    try clear hfz22_2
    try clear hfz22_3
    try clear hfz33_0
    try clear hfz33_1
    try clear hfz33_2
    try clear hfz33_3
    try clear hfz37_0
    try clear hfz37_1
    try clear hfz37_2
    try clear hfz37_3
    try clear hfz40_0
    try clear hfz40_1
    try clear hfz40_2
    try clear hfz40_3
    try clear hfz45_0
    try clear hfz45_1
    try clear hfz45_2
    try clear hfz45_3
    try clear hfz49_0
    try clear hfz49_1
    try clear hfz49_2
    try clear hfz49_3
    try clear hfz54_0
    try clear hfz54_1
    try clear hfz54_2
    try clear hfz54_3
    try clear hfz74_0
    try clear hfz74_1
    try clear hfz74_2
    try clear hfz74_3
    try clear hfz76_0
    try clear hfz76_1
    try clear hfz76_2
    try clear hfz76_3
    try clear hfz78_0
    try clear hfz78_1
    try clear hfz78_2
    try clear hfz78_3
    try clear hfz79_0
    try clear hfz79_1
    try clear hfz79_2
    try clear hfz79_3
    try clear hfz82_0
    try clear hfz82_1
    try clear hfz82_2
    try clear hfz82_3
    try clear hfz84_0
    try clear hfz84_1
    try clear hfz84_2
    try clear hfz84_3
    try clear p2
    obtain ⟨kq, x63_62, rfl, HA, HJ62, BK432, BK433, BK434, HB⟩ := hcut
    cases kq with
    | zero => exact absurd HA.out (by simp [withylaw03_ColThree.j1])
    | succ kj62 =>
     have H := HA.out
     clear HA
     simp only [withylaw03_ColThree.j1] at H
     by_cases c86 : x63_62 = true
     ·subst c86
      have H1 : (none) = some r := by rw [if_pos rfl] at H; exact H
      clear H
      have H := H1
      clear H1
      exact absurd H (by simp)
     replace c86 := Bool.eq_false_iff.mpr c86
     subst c86
     have H1 : (if t463 > 0 then (if t463 = (-1) then (if t464 > 0 then ((col_Compare.f kj62 t435 t436 t437 t438 t435 t436 t437 t438).bind fun t467 => (if t467 = 0 then ((withylaw03_fixed.f kj62).bind fun t468 => (some t468)) else (none))) else (if t465 = (-1) then ((col_Compare.f kj62 t435 t436 t437 t438 t435 t436 t437 t438).bind fun t469 => (if t469 = 0 then ((withylaw03_fixed.f kj62).bind fun t470 => (some t470)) else (none))) else (none))) else ((col_Compare.f kj62 t435 t436 t437 t438 t435 t436 t437 t438).bind fun t471 => (if t471 = 0 then ((withylaw03_fixed.f kj62).bind fun t472 => (some t472)) else (none)))) else (if t464 > 0 then (if t463 = (-1) then ((col_Compare.f kj62 t435 t436 t437 t438 t435 t436 t437 t438).bind fun t473 => (if t473 = 0 then ((withylaw03_fixed.f kj62).bind fun t474 => (some t474)) else (none))) else ((col_Compare.f kj62 t435 t436 t437 t438 t435 t436 t437 t438).bind fun t475 => (if t475 = 0 then ((withylaw03_fixed.f kj62).bind fun t476 => (some t476)) else (none)))) else (if t465 ≤ 0 then (if t463 = (-1) then (if t465 = (-1) then ((col_Compare.f kj62 t435 t436 t437 t438 t435 t436 t437 t438).bind fun t477 => (if t477 = 0 then ((withylaw03_fixed.f kj62).bind fun t478 => (some t478)) else (none))) else (none)) else ((col_Compare.f kj62 t435 t436 t437 t438 t435 t436 t437 t438).bind fun t479 => (if t479 = 0 then ((withylaw03_fixed.f kj62).bind fun t480 => (some t480)) else (none)))) else (none)))) = some r := by rw [if_neg (show ¬ (false = true) by decide)] at H; exact H
     clear H
     have H := H1
     clear H1
     by_cases c87 : t463 > 0
     ·rw [if_pos c87] at H
      have c87b0 : decide (0 < t463) = true := decide_eq_true c87
      clear c87
      by_cases c88 : t463 = (-1)
      rotate_left
      ·rw [if_neg c88] at H
       have c88b0 : (t463 == (-1)) = false := beq_eq_false_iff_ne.mpr c88
       have c88b1 : (t463 != (-1)) = true := bne_iff_ne.mpr c88
       replace H := bM H
       obtain ⟨t471, A1070, H⟩ := H
       replace H : (if t471 = 0 then ((withylaw03_fixed.f kj62).bind fun t472 => (some t472)) else (none)) = some r := H
       have A107 := Aside0.mk A1070
       clear A1070
       by_cases c108 : t471 = 0
       rotate_left
       ·rw [if_neg c108] at H
        exact absurd H (by simp)
       rw [if_pos c108] at H
       have c108b0 : (t471 == 0) = true := beq_iff_eq.mpr c108
       have c108b1 : (t471 != 0) = false := bne_eq_false_iff_eq.mpr c108
       clear c108
       replace H := bM H
       obtain ⟨t472, A1090, H⟩ := H
       replace H : (some t472) = some r := H
       have A109 := Aside0.mk A1090
       clear A1090
       obtain rfl := Option.some.inj H
       have hnb110 := NB432_433.out
       have hnc110 := NB433_432.out
       have hnb111 := NB432_434.out
       have hnc111 := NB434_432.out
       obtain ⟨hcz112_0, hcz112_1, hcz112_2, hcz112_3⟩ := zc4 BK432
       obtain ⟨hfz112_0, hfz112_1, hfz112_2, hfz112_3⟩ := zf4 BK432
       go_wp2_with (first | (go_at_call 17; (with_reducible refine (col_Compare.calls kj62 t435 t436 t437 t438 t435 t436 t437 t438 t471 _ A107.out).mono ?_); rintro e w113 ⟨rfl, hb⟩; replace BK432 := bb BK432 hb; replace BK433 := bb BK433 hb; replace BK434 := bb BK434 hb; replace HB := as_ (below_step bA hb); (try clear hb); (try clear hb2); (try clear hk); (try clear hi)) | (go_at_call 19; (with_reducible refine (withylaw03_fixed.calls kj62  t472 _ A109.out).mono ?_); rintro e w114 ⟨rfl, hb⟩; replace BK432 := bb BK432 hb; replace BK433 := bb BK433 hb; replace BK434 := bb BK434 hb; replace HB := as_ (below_step bA hb); (try clear hb); (try clear hb2); (try clear hk); (try clear hi)))
       go_ret
       exact ⟨eW, by repeat (first | (with_reducible first | exact HB.out | apply below_alloc | apply pw_below_drewN | apply below_drew1 | refine below_set ?_ GE432.out | refine below_set ?_ GE433.out | refine below_set ?_ GE434.out) | exact HB.out)⟩
      rw [if_pos c88] at H
      have c88b0 : (t463 == (-1)) = true := beq_iff_eq.mpr c88
      have c88b1 : (t463 != (-1)) = false := bne_eq_false_iff_eq.mpr c88
      clear c88
      by_cases c89 : t464 > 0
      ·rw [if_pos c89] at H
       have c89b0 : decide (0 < t464) = true := decide_eq_true c89
       clear c89
       replace H := bM H
       obtain ⟨t467, A900, H⟩ := H
       replace H : (if t467 = 0 then ((withylaw03_fixed.f kj62).bind fun t468 => (some t468)) else (none)) = some r := H
       have A90 := Aside0.mk A900
       clear A900
       by_cases c91 : t467 = 0
       rotate_left
       ·rw [if_neg c91] at H
        exact absurd H (by simp)
       rw [if_pos c91] at H
       have c91b0 : (t467 == 0) = true := beq_iff_eq.mpr c91
       have c91b1 : (t467 != 0) = false := bne_eq_false_iff_eq.mpr c91
       clear c91
       replace H := bM H
       obtain ⟨t468, A920, H⟩ := H
       replace H : (some t468) = some r := H
       have A92 := Aside0.mk A920
       clear A920
       obtain rfl := Option.some.inj H
       have hnb93 := NB432_433.out
       have hnc93 := NB433_432.out
       have hnb94 := NB432_434.out
       have hnc94 := NB434_432.out
       obtain ⟨hcz95_0, hcz95_1, hcz95_2, hcz95_3⟩ := zc4 BK432
       obtain ⟨hfz95_0, hfz95_1, hfz95_2, hfz95_3⟩ := zf4 BK432
       go_wp2_with (first | (go_at_call 17; (with_reducible refine (col_Compare.calls kj62 t435 t436 t437 t438 t435 t436 t437 t438 t467 _ A90.out).mono ?_); rintro e w96 ⟨rfl, hb⟩; replace BK432 := bb BK432 hb; replace BK433 := bb BK433 hb; replace BK434 := bb BK434 hb; replace HB := as_ (below_step bA hb); (try clear hb); (try clear hb2); (try clear hk); (try clear hi)) | (go_at_call 19; (with_reducible refine (withylaw03_fixed.calls kj62  t468 _ A92.out).mono ?_); rintro e w97 ⟨rfl, hb⟩; replace BK432 := bb BK432 hb; replace BK433 := bb BK433 hb; replace BK434 := bb BK434 hb; replace HB := as_ (below_step bA hb); (try clear hb); (try clear hb2); (try clear hk); (try clear hi)))
       go_ret
       exact ⟨eW, by repeat (first | (with_reducible first | exact HB.out | apply below_alloc | apply pw_below_drewN | apply below_drew1 | refine below_set ?_ GE432.out | refine below_set ?_ GE433.out | refine below_set ?_ GE434.out) | exact HB.out)⟩
      rw [if_neg c89] at H
      have c89b0 : decide (0 < t464) = false := decide_eq_false c89
      clear c89
      by_cases c98 : t465 = (-1)
      rotate_left
      ·rw [if_neg c98] at H
       exact absurd H (by simp)
      rw [if_pos c98] at H
      have c98b0 : (t465 == (-1)) = true := beq_iff_eq.mpr c98
      have c98b1 : (t465 != (-1)) = false := bne_eq_false_iff_eq.mpr c98
      clear c98
      replace H := bM H
      obtain ⟨t469, A990, H⟩ := H
      replace H : (if t469 = 0 then ((withylaw03_fixed.f kj62).bind fun t470 => (some t470)) else (none)) = some r := H
      have A99 := Aside0.mk A990
      clear A990
      by_cases c100 : t469 = 0
      rotate_left
      ·rw [if_neg c100] at H
       exact absurd H (by simp)
      rw [if_pos c100] at H
      have c100b0 : (t469 == 0) = true := beq_iff_eq.mpr c100
      have c100b1 : (t469 != 0) = false := bne_eq_false_iff_eq.mpr c100
      clear c100
      replace H := bM H
      obtain ⟨t470, A1010, H⟩ := H
      replace H : (some t470) = some r := H
      have A101 := Aside0.mk A1010
      clear A1010
      obtain rfl := Option.some.inj H
      have hnb102 := NB432_433.out
      have hnc102 := NB433_432.out
      have hnb103 := NB432_434.out
      have hnc103 := NB434_432.out
      obtain ⟨hcz104_0, hcz104_1, hcz104_2, hcz104_3⟩ := zc4 BK432
      obtain ⟨hfz104_0, hfz104_1, hfz104_2, hfz104_3⟩ := zf4 BK432
      go_wp2_with (first | (go_at_call 17; (with_reducible refine (col_Compare.calls kj62 t435 t436 t437 t438 t435 t436 t437 t438 t469 _ A99.out).mono ?_); rintro e w105 ⟨rfl, hb⟩; replace BK432 := bb BK432 hb; replace BK433 := bb BK433 hb; replace BK434 := bb BK434 hb; replace HB := as_ (below_step bA hb); (try clear hb); (try clear hb2); (try clear hk); (try clear hi)) | (go_at_call 19; (with_reducible refine (withylaw03_fixed.calls kj62  t470 _ A101.out).mono ?_); rintro e w106 ⟨rfl, hb⟩; replace BK432 := bb BK432 hb; replace BK433 := bb BK433 hb; replace BK434 := bb BK434 hb; replace HB := as_ (below_step bA hb); (try clear hb); (try clear hb2); (try clear hk); (try clear hi)))
      go_ret
      exact ⟨eW, by repeat (first | (with_reducible first | exact HB.out | apply below_alloc | apply pw_below_drewN | apply below_drew1 | refine below_set ?_ GE432.out | refine below_set ?_ GE433.out | refine below_set ?_ GE434.out) | exact HB.out)⟩
     rw [if_neg c87] at H
     have c87b0 : decide (0 < t463) = false := decide_eq_false c87
     clear c87
     by_cases c115 : t464 > 0
     ·rw [if_pos c115] at H
      have c115b0 : decide (0 < t464) = true := decide_eq_true c115
      clear c115
      by_cases c116 : t463 = (-1)
      rotate_left
      ·rw [if_neg c116] at H
       have c116b0 : (t463 == (-1)) = false := beq_eq_false_iff_ne.mpr c116
       have c116b1 : (t463 != (-1)) = true := bne_iff_ne.mpr c116
       replace H := bM H
       obtain ⟨t475, A1250, H⟩ := H
       replace H : (if t475 = 0 then ((withylaw03_fixed.f kj62).bind fun t476 => (some t476)) else (none)) = some r := H
       have A125 := Aside0.mk A1250
       clear A1250
       by_cases c126 : t475 = 0
       rotate_left
       ·rw [if_neg c126] at H
        exact absurd H (by simp)
       rw [if_pos c126] at H
       have c126b0 : (t475 == 0) = true := beq_iff_eq.mpr c126
       have c126b1 : (t475 != 0) = false := bne_eq_false_iff_eq.mpr c126
       clear c126
       replace H := bM H
       obtain ⟨t476, A1270, H⟩ := H
       replace H : (some t476) = some r := H
       have A127 := Aside0.mk A1270
       clear A1270
       obtain rfl := Option.some.inj H
       have hnb128 := NB432_433.out
       have hnc128 := NB433_432.out
       have hnb129 := NB432_434.out
       have hnc129 := NB434_432.out
       obtain ⟨hcz130_0, hcz130_1, hcz130_2, hcz130_3⟩ := zc4 BK432
       obtain ⟨hfz130_0, hfz130_1, hfz130_2, hfz130_3⟩ := zf4 BK432
       go_wp2_with (first | (go_at_call 17; (with_reducible refine (col_Compare.calls kj62 t435 t436 t437 t438 t435 t436 t437 t438 t475 _ A125.out).mono ?_); rintro e w131 ⟨rfl, hb⟩; replace BK432 := bb BK432 hb; replace BK433 := bb BK433 hb; replace BK434 := bb BK434 hb; replace HB := as_ (below_step bA hb); (try clear hb); (try clear hb2); (try clear hk); (try clear hi)) | (go_at_call 19; (with_reducible refine (withylaw03_fixed.calls kj62  t476 _ A127.out).mono ?_); rintro e w132 ⟨rfl, hb⟩; replace BK432 := bb BK432 hb; replace BK433 := bb BK433 hb; replace BK434 := bb BK434 hb; replace HB := as_ (below_step bA hb); (try clear hb); (try clear hb2); (try clear hk); (try clear hi)))
       go_ret
       exact ⟨eW, by repeat (first | (with_reducible first | exact HB.out | apply below_alloc | apply pw_below_drewN | apply below_drew1 | refine below_set ?_ GE432.out | refine below_set ?_ GE433.out | refine below_set ?_ GE434.out) | exact HB.out)⟩
      rw [if_pos c116] at H
      have c116b0 : (t463 == (-1)) = true := beq_iff_eq.mpr c116
      have c116b1 : (t463 != (-1)) = false := bne_eq_false_iff_eq.mpr c116
      clear c116
      replace H := bM H
      obtain ⟨t473, A1170, H⟩ := H
      replace H : (if t473 = 0 then ((withylaw03_fixed.f kj62).bind fun t474 => (some t474)) else (none)) = some r := H
      have A117 := Aside0.mk A1170
      clear A1170
      by_cases c118 : t473 = 0
      rotate_left
      ·rw [if_neg c118] at H
       exact absurd H (by simp)
      rw [if_pos c118] at H
      have c118b0 : (t473 == 0) = true := beq_iff_eq.mpr c118
      have c118b1 : (t473 != 0) = false := bne_eq_false_iff_eq.mpr c118
      clear c118
      replace H := bM H
      obtain ⟨t474, A1190, H⟩ := H
      replace H : (some t474) = some r := H
      have A119 := Aside0.mk A1190
      clear A1190
      obtain rfl := Option.some.inj H
      have hnb120 := NB432_433.out
      have hnc120 := NB433_432.out
      have hnb121 := NB432_434.out
      have hnc121 := NB434_432.out
      obtain ⟨hcz122_0, hcz122_1, hcz122_2, hcz122_3⟩ := zc4 BK432
      obtain ⟨hfz122_0, hfz122_1, hfz122_2, hfz122_3⟩ := zf4 BK432
      go_wp2_with (first | (go_at_call 17; (with_reducible refine (col_Compare.calls kj62 t435 t436 t437 t438 t435 t436 t437 t438 t473 _ A117.out).mono ?_); rintro e w123 ⟨rfl, hb⟩; replace BK432 := bb BK432 hb; replace BK433 := bb BK433 hb; replace BK434 := bb BK434 hb; replace HB := as_ (below_step bA hb); (try clear hb); (try clear hb2); (try clear hk); (try clear hi)) | (go_at_call 19; (with_reducible refine (withylaw03_fixed.calls kj62  t474 _ A119.out).mono ?_); rintro e w124 ⟨rfl, hb⟩; replace BK432 := bb BK432 hb; replace BK433 := bb BK433 hb; replace BK434 := bb BK434 hb; replace HB := as_ (below_step bA hb); (try clear hb); (try clear hb2); (try clear hk); (try clear hi)))
      go_ret
      exact ⟨eW, by repeat (first | (with_reducible first | exact HB.out | apply below_alloc | apply pw_below_drewN | apply below_drew1 | refine below_set ?_ GE432.out | refine below_set ?_ GE433.out | refine below_set ?_ GE434.out) | exact HB.out)⟩
     rw [if_neg c115] at H
     have c115b0 : decide (0 < t464) = false := decide_eq_false c115
     clear c115
     by_cases c133 : t465 ≤ 0
     rotate_left
     ·rw [if_neg c133] at H
      exact absurd H (by simp)
 
     rw [if_pos c133] at H
     have c133b0 : decide (t465 ≤ 0) = true := decide_eq_true c133
     clear c133
     by_cases c134 : t463 = (-1)
     rotate_left
     ·rw [if_neg c134] at H
      have c134b0 : (t463 == (-1)) = false := beq_eq_false_iff_ne.mpr c134
      have c134b1 : (t463 != (-1)) = true := bne_iff_ne.mpr c134
      replace H := bM H
      obtain ⟨t479, A1440, H⟩ := H
      replace H : (if t479 = 0 then ((withylaw03_fixed.f kj62).bind fun t480 => (some t480)) else (none)) = some r := H
      have A144 := Aside0.mk A1440
      clear A1440
      by_cases c145 : t479 = 0
      rotate_left
      ·rw [if_neg c145] at H
       exact absurd H (by simp)
      rw [if_pos c145] at H
      have c145b0 : (t479 == 0) = true := beq_iff_eq.mpr c145
      have c145b1 : (t479 != 0) = false := bne_eq_false_iff_eq.mpr c145
      clear c145
      replace H := bM H
      obtain ⟨t480, A1460, H⟩ := H
      replace H : (some t480) = some r := H
      have A146 := Aside0.mk A1460
      clear A1460
      obtain rfl := Option.some.inj H
      have hnb147 := NB432_433.out
      have hnc147 := NB433_432.out
      have hnb148 := NB432_434.out
      have hnc148 := NB434_432.out
      obtain ⟨hcz149_0, hcz149_1, hcz149_2, hcz149_3⟩ := zc4 BK432
      obtain ⟨hfz149_0, hfz149_1, hfz149_2, hfz149_3⟩ := zf4 BK432
      go_wp2_with (first | (go_at_call 17; (with_reducible refine (col_Compare.calls kj62 t435 t436 t437 t438 t435 t436 t437 t438 t479 _ A144.out).mono ?_); rintro e w150 ⟨rfl, hb⟩; replace BK432 := bb BK432 hb; replace BK433 := bb BK433 hb; replace BK434 := bb BK434 hb; replace HB := as_ (below_step bA hb); (try clear hb); (try clear hb2); (try clear hk); (try clear hi)) | (go_at_call 19; (with_reducible refine (withylaw03_fixed.calls kj62  t480 _ A146.out).mono ?_); rintro e w151 ⟨rfl, hb⟩; replace BK432 := bb BK432 hb; replace BK433 := bb BK433 hb; replace BK434 := bb BK434 hb; replace HB := as_ (below_step bA hb); (try clear hb); (try clear hb2); (try clear hk); (try clear hi)))
      go_ret
      exact ⟨eW, by repeat (first | (with_reducible first | exact HB.out | apply below_alloc | apply pw_below_drewN | apply below_drew1 | refine below_set ?_ GE432.out | refine below_set ?_ GE433.out | refine below_set ?_ GE434.out) | exact HB.out)⟩
     rw [if_pos c134] at H
     have c134b0 : (t463 == (-1)) = true := beq_iff_eq.mpr c134
     have c134b1 : (t463 != (-1)) = false := bne_eq_false_iff_eq.mpr c134
     clear c134
     by_cases c135 : t465 = (-1)
     rotate_left
     ·rw [if_neg c135] at H
      exact absurd H (by simp)
     rw [if_pos c135] at H
     have c135b0 : (t465 == (-1)) = true := beq_iff_eq.mpr c135
     have c135b1 : (t465 != (-1)) = false := bne_eq_false_iff_eq.mpr c135
     clear c135
     replace H := bM H
     obtain ⟨t477, A1360, H⟩ := H
     replace H : (if t477 = 0 then ((withylaw03_fixed.f kj62).bind fun t478 => (some t478)) else (none)) = some r := H
     have A136 := Aside0.mk A1360
     clear A1360
     by_cases c137 : t477 = 0
     rotate_left
     ·rw [if_neg c137] at H
      exact absurd H (by simp)
     rw [if_pos c137] at H
     have c137b0 : (t477 == 0) = true := beq_iff_eq.mpr c137
     have c137b1 : (t477 != 0) = false := bne_eq_false_iff_eq.mpr c137
     clear c137
     replace H := bM H
     obtain ⟨t478, A1380, H⟩ := H
     replace H : (some t478) = some r := H
     have A138 := Aside0.mk A1380
     clear A1380
     obtain rfl := Option.some.inj H
     have hnb139 := NB432_433.out
     have hnc139 := NB433_432.out
     have hnb140 := NB432_434.out
     have hnc140 := NB434_432.out
     obtain ⟨hcz141_0, hcz141_1, hcz141_2, hcz141_3⟩ := zc4 BK432
     obtain ⟨hfz141_0, hfz141_1, hfz141_2, hfz141_3⟩ := zf4 BK432
     go_wp2_with (first | (go_at_call 17; (with_reducible refine (col_Compare.calls kj62 t435 t436 t437 t438 t435 t436 t437 t438 t477 _ A136.out).mono ?_); rintro e w142 ⟨rfl, hb⟩; replace BK432 := bb BK432 hb; replace BK433 := bb BK433 hb; replace BK434 := bb BK434 hb; replace HB := as_ (below_step bA hb); (try clear hb); (try clear hb2); (try clear hk); (try clear hi)) | (go_at_call 19; (with_reducible refine (withylaw03_fixed.calls kj62  t478 _ A138.out).mono ?_); rintro e w143 ⟨rfl, hb⟩; replace BK432 := bb BK432 hb; replace BK433 := bb BK433 hb; replace BK434 := bb BK434 hb; replace HB := as_ (below_step bA hb); (try clear hb); (try clear hb2); (try clear hk); (try clear hi)))
     go_ret
     exact ⟨eW, by repeat (first | (with_reducible first | exact HB.out | apply below_alloc | apply pw_below_drewN | apply below_drew1 | refine below_set ?_ GE432.out | refine below_set ?_ GE433.out | refine below_set ?_ GE434.out) | exact HB.out)⟩
end Go.Proofs.YtjfgeppfkhaliaaDoor.P
