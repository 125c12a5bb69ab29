/- What is proved here: for functions of the Go text, a Lean function each, and that the call comes to just what it answers. Conditions: as each contract names them. Written by wip/tools/myprint.py, a driver of the print of the kit. -/
import Derived.Test.YtjfgeppfkhaliaaDoorP0
import Derived.Test.YtjfgeppfkhaliaaDoorP1
import Derived.Test.YtjfgeppfkhaliaaDoorP3
import Derived.Test.YtjfgeppfkhaliaaDoorP5
import Derived.Test.YtjfgeppfkhaliaaDoorP11
import Derived.Test.YtjfgeppfkhaliaaDoorP12
import Derived.Test.YtjfgeppfkhaliaaDoorWAbbr
namespace Go.Proofs.YtjfgeppfkhaliaaDoor.P
open Go.RowKit Go.Proofs.YtjfgeppfkhaliaaDoorW.PrintWords Go.Proofs.YtjfgeppfkhaliaaDoorW.PrintLast Go.Proofs.YtjfgeppfkhaliaaDoorW.PrintMore Go.Proofs.YtjfgeppfkhaliaaDoorW.Abbr
-- PACKED
attribute [local go_sem] max2_int min2_int max_two min_two max_three min_three max_four min_four Go.Proofs.YtjfgeppfkhaliaaDoorLaws.str_leq Go.Proofs.YtjfgeppfkhaliaaDoorLaws.str_gtr Go.Proofs.YtjfgeppfkhaliaaDoorLaws.str_geq Go.Proofs.YtjfgeppfkhaliaaDoorLaws.max2_str Go.Proofs.YtjfgeppfkhaliaaDoorLaws.min2_str   -- for this text's walks alone
set_option linter.unusedVariables false
set_option linter.unusedSimpArgs false

attribute [local go_sem high] eqA24
/-! ### withylaw03_ColOrder: function 4 -/
def withylaw03_ColOrder.j0 : Nat → ByteArray → ByteArray → Bool → Int → Int → Int → ByteArray → Int → Int → Int → ByteArray → ByteArray → ByteArray → Option (Bool)
 | 0, _, _, _, _, _, _, _, _, _, _, _, _, _ => none
 | k + 1, x7, x9, x34, x365000, x365001, x365002, x365003, x366000, x366001, x366002, x366003, x367000, x367001 => if x34 = true then ((withylaw03_fixed.f k).bind fun t379 => (some t379)) else (if 0 ≤ (mn (x367000.size : Int) 20) then (if (mn (x367000.size : Int) 20) ≤ (x367000.size : Int) then (if x7.size + (x367000.extract 0 ((mn (x367000.size : Int) 20) : Int).toNat).size ≤ 9223372036854775807 then (if 0 ≤ (mn (x367001.size : Int) 20) then (if (mn (x367001.size : Int) 20) ≤ (x367001.size : Int) then (if x9.size + (x367001.extract 0 ((mn (x367001.size : Int) 20) : Int).toNat).size ≤ 9223372036854775807 then (if (x7.size : Int) ≤ (x9.size : Int) then (if 0 ≤ (x7.size : Int) then (if (x9.extract 0 x7.size).toList = x7.toList then ((col_Compare.f k x365000 x365001 x365002 x365003 x366000 x366001 x366002 x366003).bind fun t380 => (if ((decide (t380 < 0)) == (Op.bytesLess x7.toList x9.toList)) = true then (if ((t380 == 0) == (x7.toList == x9.toList)) = true then (if (true == (t380 == 0)) = true then (if t380 = 0 then (if ((t380 == 0) == (x365000 == x366000 && (x365001 == x366001 && (x365002 == x366002 && (x365003.toList == x366003.toList))))) = true then ((withylaw03_fixed.f k).bind fun t381 => (some t381)) else (none)) else (if ((decide (t380 < 0)) == (Op.bytesLess ((x7 ++ (x367000.extract 0 ((mn (x367000.size : Int) 20) : Int).toNat)).toList) ((x9 ++ (x367001.extract 0 ((mn (x367001.size : Int) 20) : Int).toNat)).toList))) = true then (if ((t380 == 0) == (x365000 == x366000 && (x365001 == x366001 && (x365002 == x366002 && (x365003.toList == x366003.toList))))) = true then ((withylaw03_fixed.f k).bind fun t382 => (some t382)) else (none)) else (none))) else (none)) else (none)) else (none))) else (if (x9.size : Int) ≤ (x7.size : Int) then (if 0 ≤ (x9.size : Int) then ((col_Compare.f k x365000 x365001 x365002 x365003 x366000 x366001 x366002 x366003).bind fun t383 => (if ((decide (t383 < 0)) == (Op.bytesLess x7.toList x9.toList)) = true then (if ((t383 == 0) == (x7.toList == x9.toList)) = true then (if (((x7.extract 0 x9.size).toList == x9.toList) == (t383 == 0)) = true then (if t383 = 0 then (if ((t383 == 0) == (x365000 == x366000 && (x365001 == x366001 && (x365002 == x366002 && (x365003.toList == x366003.toList))))) = true then ((withylaw03_fixed.f k).bind fun t384 => (some t384)) else (none)) else (if ((decide (t383 < 0)) == (Op.bytesLess ((x7 ++ (x367000.extract 0 ((mn (x367000.size : Int) 20) : Int).toNat)).toList) ((x9 ++ (x367001.extract 0 ((mn (x367001.size : Int) 20) : Int).toNat)).toList))) = true then (if ((t383 == 0) == (x365000 == x366000 && (x365001 == x366001 && (x365002 == x366002 && (x365003.toList == x366003.toList))))) = true then ((withylaw03_fixed.f k).bind fun t385 => (some t385)) else (none)) else (none))) else (none)) else (none)) else (none))) else (none)) else ((col_Compare.f k x365000 x365001 x365002 x365003 x366000 x366001 x366002 x366003).bind fun t386 => (if ((decide (t386 < 0)) == (Op.bytesLess x7.toList x9.toList)) = true then (if ((t386 == 0) == (x7.toList == x9.toList)) = true then (if (false == (t386 == 0)) = true then (if t386 = 0 then (if ((t386 == 0) == (x365000 == x366000 && (x365001 == x366001 && (x365002 == x366002 && (x365003.toList == x366003.toList))))) = true then ((withylaw03_fixed.f k).bind fun t387 => (some t387)) else (none)) else (if ((decide (t386 < 0)) == (Op.bytesLess ((x7 ++ (x367000.extract 0 ((mn (x367000.size : Int) 20) : Int).toNat)).toList) ((x9 ++ (x367001.extract 0 ((mn (x367001.size : Int) 20) : Int).toNat)).toList))) = true then (if ((t386 == 0) == (x365000 == x366000 && (x365001 == x366001 && (x365002 == x366002 && (x365003.toList == x366003.toList))))) = true then ((withylaw03_fixed.f k).bind fun t388 => (some t388)) else (none)) else (none))) else (none)) else (none)) else (none))))) else (none)) else (if (x9.size : Int) ≤ (x7.size : Int) then (if 0 ≤ (x9.size : Int) then ((col_Compare.f k x365000 x365001 x365002 x365003 x366000 x366001 x366002 x366003).bind fun t389 => (if ((decide (t389 < 0)) == (Op.bytesLess x7.toList x9.toList)) = true then (if ((t389 == 0) == (x7.toList == x9.toList)) = true then (if (((x7.extract 0 x9.size).toList == x9.toList) == (t389 == 0)) = true then (if t389 = 0 then (if ((t389 == 0) == (x365000 == x366000 && (x365001 == x366001 && (x365002 == x366002 && (x365003.toList == x366003.toList))))) = true then ((withylaw03_fixed.f k).bind fun t390 => (some t390)) else (none)) else (if ((decide (t389 < 0)) == (Op.bytesLess ((x7 ++ (x367000.extract 0 ((mn (x367000.size : Int) 20) : Int).toNat)).toList) ((x9 ++ (x367001.extract 0 ((mn (x367001.size : Int) 20) : Int).toNat)).toList))) = true then (if ((t389 == 0) == (x365000 == x366000 && (x365001 == x366001 && (x365002 == x366002 && (x365003.toList == x366003.toList))))) = true then ((withylaw03_fixed.f k).bind fun t391 => (some t391)) else (none)) else (none))) else (none)) else (none)) else (none))) else (none)) else ((col_Compare.f k x365000 x365001 x365002 x365003 x366000 x366001 x366002 x366003).bind fun t392 => (if ((decide (t392 < 0)) == (Op.bytesLess x7.toList x9.toList)) = true then (if ((t392 == 0) == (x7.toList == x9.toList)) = true then (if (false == (t392 == 0)) = true then (if t392 = 0 then (if ((t392 == 0) == (x365000 == x366000 && (x365001 == x366001 && (x365002 == x366002 && (x365003.toList == x366003.toList))))) = true then ((withylaw03_fixed.f k).bind fun t393 => (some t393)) else (none)) else (if ((decide (t392 < 0)) == (Op.bytesLess ((x7 ++ (x367000.extract 0 ((mn (x367000.size : Int) 20) : Int).toNat)).toList) ((x9 ++ (x367001.extract 0 ((mn (x367001.size : Int) 20) : Int).toNat)).toList))) = true then (if ((t392 == 0) == (x365000 == x366000 && (x365001 == x366001 && (x365002 == x366002 && (x365003.toList == x366003.toList))))) = true then ((withylaw03_fixed.f k).bind fun t394 => (some t394)) else (none)) else (none))) else (none)) else (none)) else (none))))) else (none)) else (none)) else (none)) else (none)) else (none)) else (none))
def withylaw03_ColOrder.f (k : Nat) (a0_0 : Int) (a0_1 : Int) (a0_2 : Int) (a0_3 : ByteArray) (a1_0 : Int) (a1_1 : Int) (a1_2 : Int) (a1_3 : ByteArray) (a2_0 : ByteArray) (a2_1 : ByteArray) : Option (Bool) := (withylaw03_Cut.f a0_0 a0_1 a0_2 a0_3).bind fun bt367 => ((withylaw03_Cut.f a1_0 a1_1 a1_2 a1_3).bind fun bt371 => ((col_Put.f k bt367.1 bt367.2.1 bt367.2.2.1 bt367.2.2.2).bind fun bt375 => ((col_Put.f k bt371.1 bt371.2.1 bt371.2.2.1 bt371.2.2.2).bind fun bt377 => (if bt375.2 = 0 then (withylaw03_ColOrder.j0 k bt375.1 bt377.1 (bt377.2 != 0) bt367.1 bt367.2.1 bt367.2.2.1 bt367.2.2.2 bt371.1 bt371.2.1 bt371.2.2.1 bt371.2.2.2 a2_0 a2_1) else (withylaw03_ColOrder.j0 k bt375.1 bt377.1 true bt367.1 bt367.2.1 bt367.2.2.1 bt367.2.2.2 bt371.1 bt371.2.1 bt371.2.2.1 bt371.2.2.2 a2_0 a2_1)))))
theorem withylaw03_ColOrder.mono_l : ∀ k, (∀ y0 y1 y2 y3 y4 y5 y6 y7 y8 y9 y10 y11 y12, LeO (withylaw03_ColOrder.j0 k y0 y1 y2 y3 y4 y5 y6 y7 y8 y9 y10 y11 y12) (withylaw03_ColOrder.j0 (k + 1) y0 y1 y2 y3 y4 y5 y6 y7 y8 y9 y10 y11 y12))
 | 0 => fun _ _ _ _ _ _ _ _ _ _ _ _ _ r h => by simp [withylaw03_ColOrder.j0] at h
 | k + 1 => by
  have ih0 := withylaw03_ColOrder.mono_l k
  ·intro y0 y1 y2 y3 y4 y5 y6 y7 y8 y9 y10 y11 y12
   unfold withylaw03_ColOrder.j0
   repeat' first
   | (with_reducible exact ih0 _ _ _ _ _ _ _ _ _ _ _ _ _)
   | (with_reducible exact col_Compare.mono _ _ _ _ _ _ _ _ _)
   | (with_reducible exact col_Put.mono _ _ _ _ _)
   | (with_reducible exact withylaw03_fixed.mono _)
   | (with_reducible exact LeO.refl _)
   | (with_reducible exact LeO.none _)
   | (with_reducible refine LeO.ite ?_ ?_)
   | (with_reducible refine LeO.bind ?_ (fun _ => ?_))
   | exact ih0 _ _ _ _ _ _ _ _ _ _ _ _ _
   | exact col_Compare.mono _ _ _ _ _ _ _ _ _
   | exact col_Put.mono _ _ _ _ _
   | exact withylaw03_fixed.mono _
   | exact LeO.none _
   | refine LeO.ite ?_ ?_
   | refine LeO.bind ?_ (fun _ => ?_)
theorem withylaw03_ColOrder.mono : ∀ a0 a1 a2 a3 a4 a5 a6 a7 a8 a9 k, LeO (withylaw03_ColOrder.f k a0 a1 a2 a3 a4 a5 a6 a7 a8 a9) (withylaw03_ColOrder.f (k + 1) a0 a1 a2 a3 a4 a5 a6 a7 a8 a9) := by
 intro a0 a1 a2 a3 a4 a5 a6 a7 a8 a9 k
 have ih0 := withylaw03_ColOrder.mono_l k
 unfold withylaw03_ColOrder.f
 repeat' first
   | (with_reducible exact ih0 _ _ _ _ _ _ _ _ _ _ _ _ _)
   | (with_reducible exact col_Compare.mono _ _ _ _ _ _ _ _ _)
   | (with_reducible exact col_Put.mono _ _ _ _ _)
   | (with_reducible exact withylaw03_fixed.mono _)
   | (with_reducible exact LeO.refl _)
   | (with_reducible exact LeO.none _)
   | (with_reducible refine LeO.ite ?_ ?_)
   | (with_reducible refine LeO.bind ?_ (fun _ => ?_))
   | exact ih0 _ _ _ _ _ _ _ _ _ _ _ _ _
   | exact col_Compare.mono _ _ _ _ _ _ _ _ _
   | exact col_Put.mono _ _ _ _ _
   | exact withylaw03_fixed.mono _
   | exact LeO.none _
   | refine LeO.ite ?_ ?_
   | refine LeO.bind ?_ (fun _ => ?_)
set_option maxHeartbeats 8000000 in
set_option maxRecDepth 100000 in
theorem withylaw03_ColOrder.calls (k : Nat) (a0_0 : Int) (a0_1 : Int) (a0_2 : Int) (a0_3 : ByteArray) (a1_0 : Int) (a1_1 : Int) (a1_2 : Int) (a1_3 : ByteArray) (a2_0 : ByteArray) (a2_1 : ByteArray) (r : Bool) (w : World) (h : withylaw03_ColOrder.f k a0_0 a0_1 a0_2 a0_3 a1_0 a1_1 a1_2 a1_3 a2_0 a2_1 = some r) :
  Calls Tryd.prog 4 #[.agg #[.int .i64 a0_0, .int .i64 a0_1, .int .u64 a0_2, .string a0_3], .agg #[.int .i64 a1_0, .int .i64 a1_1, .int .u64 a1_2, .string a1_3], .agg #[.string a2_0, .string a2_1]] w fun e w' => e = .returned (.bool r) ∧ Below w.heap.size w w' := by
 have hu24 := Tryd.underlying24
 have hu44 := Tryd.underlying44
 have HB := as_ (Below.refl w.heap.size w)
 have H : ((withylaw03_Cut.f a0_0 a0_1 a0_2 a0_3).bind fun bt367 => ((withylaw03_Cut.f a1_0 a1_1 a1_2 a1_3).bind fun bt371 => ((col_Put.f k bt367.1 bt367.2.1 bt367.2.2.1 bt367.2.2.2).bind fun bt375 => ((col_Put.f k bt371.1 bt371.2.1 bt371.2.2.1 bt371.2.2.2).bind fun bt377 => (if bt375.2 = 0 then (withylaw03_ColOrder.j0 k bt375.1 bt377.1 (bt377.2 != 0) bt367.1 bt367.2.1 bt367.2.2.1 bt367.2.2.2 bt371.1 bt371.2.1 bt371.2.2.1 bt371.2.2.2 a2_0 a2_1) else (withylaw03_ColOrder.j0 k bt375.1 bt377.1 true bt367.1 bt367.2.1 bt367.2.2.1 bt367.2.2.2 bt371.1 bt371.2.1 bt371.2.2.1 bt371.2.2.2 a2_0 a2_1)))))) = some r := h
 clear h
 replace H := bM H
 obtain ⟨⟨t367, t368, t369, t370⟩, A40, H⟩ := H
 replace H : ((withylaw03_Cut.f a1_0 a1_1 a1_2 a1_3).bind fun bt371 => ((col_Put.f k t367 t368 t369 t370).bind fun bt375 => ((col_Put.f k bt371.1 bt371.2.1 bt371.2.2.1 bt371.2.2.2).bind fun bt377 => (if bt375.2 = 0 then (withylaw03_ColOrder.j0 k bt375.1 bt377.1 (bt377.2 != 0) t367 t368 t369 t370 bt371.1 bt371.2.1 bt371.2.2.1 bt371.2.2.2 a2_0 a2_1) else (withylaw03_ColOrder.j0 k bt375.1 bt377.1 true t367 t368 t369 t370 bt371.1 bt371.2.1 bt371.2.2.1 bt371.2.2.2 a2_0 a2_1))))) = some r := H
 have A4 := Aside0.mk A40
 clear A40
 replace H := bM H
 obtain ⟨⟨t371, t372, t373, t374⟩, A50, H⟩ := H
 replace H : ((col_Put.f k t367 t368 t369 t370).bind fun bt375 => ((col_Put.f k t371 t372 t373 t374).bind fun bt377 => (if bt375.2 = 0 then (withylaw03_ColOrder.j0 k bt375.1 bt377.1 (bt377.2 != 0) t367 t368 t369 t370 t371 t372 t373 t374 a2_0 a2_1) else (withylaw03_ColOrder.j0 k bt375.1 bt377.1 true t367 t368 t369 t370 t371 t372 t373 t374 a2_0 a2_1)))) = some r := H
 have A5 := Aside0.mk A50
 clear A50
 replace H := bM H
 obtain ⟨⟨t375, t376⟩, A60, H⟩ := H
 replace H : ((col_Put.f k t371 t372 t373 t374).bind fun bt377 => (if t376 = 0 then (withylaw03_ColOrder.j0 k t375 bt377.1 (bt377.2 != 0) t367 t368 t369 t370 t371 t372 t373 t374 a2_0 a2_1) else (withylaw03_ColOrder.j0 k t375 bt377.1 true t367 t368 t369 t370 t371 t372 t373 t374 a2_0 a2_1))) = some r := H
 have A6 := Aside0.mk A60
 clear A60
 replace H := bM H
 obtain ⟨⟨t377, t378⟩, A70, H⟩ := H
 replace H : (if t376 = 0 then (withylaw03_ColOrder.j0 k t375 t377 (t378 != 0) t367 t368 t369 t370 t371 t372 t373 t374 a2_0 a2_1) else (withylaw03_ColOrder.j0 k t375 t377 true t367 t368 t369 t370 t371 t372 t373 t374 a2_0 a2_1)) = some r := H
 have A7 := Aside0.mk A70
 clear A70
 have HC8 := Aside0.mk H
 clear H
 go_enter Tryd.func4, Tryd.ntmps4
 (try simp only [List.append_eq, List.cons_append, List.nil_append])
 go_upto_region 5 with (first | ((with_reducible refine gate_dst (N := 3) rfl ?_); (try (refine gate_guard (by rfl) ?_; dsimp only)); refine box_event (by rfl) (N := 3) (by rfl) (cs := #[.int .i64 a0_0, .int .i64 a0_1, .int .u64 a0_2, .string a0_3]) (t := 24) gS ?_; intro gb364 hg w9 hbox hb; have BK364 := as_ (hbox); have GW364 := gw hg bA; have GE364 := gw hg bA; replace HB := as_ (below_step bA hb); clear hb hbox hg) | ((with_reducible refine gate_dst (N := 4) rfl ?_); (try (refine gate_guard (by rfl) ?_; dsimp only)); refine box_event (by rfl) (N := 4) (by rfl) (cs := #[.int .i64 a1_0, .int .i64 a1_1, .int .u64 a1_2, .string a1_3]) (t := 24) gS ?_; intro gb365 hg w10 hbox hb; have BK365 := as_ (hbox); have GW365 := gw hg bA; have GE365 := gw hg bA; have NB364_365 := nl BK364 hg; have NB365_364 := ng BK364 hg; replace BK364 := bb BK364 hb; replace HB := as_ (below_step bA hb); clear hb hbox hg) | ((with_reducible refine gate_dst (N := 5) rfl ?_); (try (refine gate_guard (by rfl) ?_; dsimp only)); refine box_event (by rfl) (N := 5) (by rfl) (cs := #[.string a2_0, .string a2_1]) (t := 44) gS ?_; intro gb366 hg w11 hbox hb; have BK366 := as_ (hbox); have GW366 := gw hg bA; have GE366 := gw hg bA; have NB364_366 := nl BK364 hg; have NB366_364 := ng BK364 hg; have NB365_366 := nl BK365 hg; have NB366_365 := ng BK365 hg; replace BK364 := bb BK364 hb; replace BK365 := bb BK365 hb; replace HB := as_ (below_step bA hb); clear hb hbox hg; have hnb12 := NB364_365.out; have hnc12 := NB365_364.out; have hnb13 := NB364_366.out; have hnc13 := NB366_364.out; obtain ⟨hcz14_0, hcz14_1, hcz14_2, hcz14_3⟩ := zc4 BK364; obtain ⟨hfz14_0, hfz14_1, hfz14_2, hfz14_3⟩ := zf4 BK364) | (go_at_call 9; (with_reducible refine (withylaw03_Cut.calls a0_0 a0_1 a0_2 a0_3 t367 t368 t369 t370 _ A4.out).mono ?_); rintro e w15 ⟨rfl, hb⟩; replace BK364 := bb BK364 hb; replace BK365 := bb BK365 hb; replace BK366 := bb BK366 hb; replace HB := as_ (below_step bA hb); (try clear hb); (try clear hb2); (try clear hk); (try clear hi); obtain ⟨hcz16_0, hcz16_1, hcz16_2, hcz16_3⟩ := zc4 BK364; obtain ⟨hfz16_0, hfz16_1, hfz16_2, hfz16_3⟩ := zf4 BK364; have hnb17 := NB365_366.out; have hnc17 := NB366_365.out; obtain ⟨hcz18_0, hcz18_1, hcz18_2, hcz18_3⟩ := zc4 BK365; obtain ⟨hfz18_0, hfz18_1, hfz18_2, hfz18_3⟩ := zf4 BK365) | (go_at_call 9; (with_reducible refine (withylaw03_Cut.calls a1_0 a1_1 a1_2 a1_3 t371 t372 t373 t374 _ A5.out).mono ?_); rintro e w19 ⟨rfl, hb⟩; replace BK364 := as_ (blk_below (g := gb364) (o := .cells #[.int .i64 t367, .int .i64 t368, .int .u64 t369, .string t370] 24 (0, 0)) (by refine bx ?_; refine blk_put (cs := #[.int .i64 t367, .int .i64 t368, .int .u64 t369, .string a0_3]) ?_ 3 _ rfl; refine bx ?_; refine blk_put (cs := #[.int .i64 t367, .int .i64 t368, .int .u64 a0_2, .string a0_3]) ?_ 2 _ rfl; refine bx ?_; refine blk_put (cs := #[.int .i64 t367, .int .i64 a0_1, .int .u64 a0_2, .string a0_3]) ?_ 1 _ rfl; refine bx ?_; refine blk_put (cs := #[.int .i64 a0_0, .int .i64 a0_1, .int .u64 a0_2, .string a0_3]) ?_ 0 _ rfl; refine bx ?_; exact BK364.out) hb); replace BK365 := as_ (blk_below (g := gb365) (o := .cells #[.int .i64 a1_0, .int .i64 a1_1, .int .u64 a1_2, .string a1_3] 24 (0, 0)) (by refine bx ?_; refine blk_far ?_ NB365_364.out _; refine bx ?_; refine blk_far ?_ NB365_364.out _; refine bx ?_; refine blk_far ?_ NB365_364.out _; refine bx ?_; refine blk_far ?_ NB365_364.out _; refine bx ?_; exact BK365.out) hb); replace BK366 := as_ (blk_below (g := gb366) (o := .cells #[.string a2_0, .string a2_1] 44 (0, 0)) (by refine bx ?_; refine blk_far ?_ NB366_364.out _; refine bx ?_; refine blk_far ?_ NB366_364.out _; refine bx ?_; refine blk_far ?_ NB366_364.out _; refine bx ?_; refine blk_far ?_ NB366_364.out _; refine bx ?_; exact BK366.out) hb); replace HB := as_ (below_step bA hb); (try clear hb); (try clear hb2); (try clear hk); (try clear hi); obtain ⟨hcz20_0, hcz20_1, hcz20_2, hcz20_3⟩ := zc4 BK365; obtain ⟨hfz20_0, hfz20_1, hfz20_2, hfz20_3⟩ := zf4 BK365; obtain ⟨hcz21_0, hcz21_1, hcz21_2, hcz21_3⟩ := zc4 BK364; obtain ⟨hfz21_0, hfz21_1, hfz21_2, hfz21_3⟩ := zf4 BK364) | (go_at_call 10; (with_reducible refine (col_Put.calls k t367 t368 t369 t370 t375 t376 _ A6.out).mono ?_); rintro e w22 ⟨rfl, hb⟩; clear A6; replace BK364 := as_ (blk_below (g := gb364) (o := .cells #[.int .i64 t367, .int .i64 t368, .int .u64 t369, .string t370] 24 (0, 0)) (by refine bx ?_; refine blk_far ?_ NB364_365.out _; refine bx ?_; refine blk_far ?_ NB364_365.out _; refine bx ?_; refine blk_far ?_ NB364_365.out _; refine bx ?_; refine blk_far ?_ NB364_365.out _; refine bx ?_; exact BK364.out) hb); replace BK365 := as_ (blk_below (g := gb365) (o := .cells #[.int .i64 t371, .int .i64 t372, .int .u64 t373, .string t374] 24 (0, 0)) (by refine bx ?_; refine blk_put (cs := #[.int .i64 t371, .int .i64 t372, .int .u64 t373, .string a1_3]) ?_ 3 _ rfl; refine bx ?_; refine blk_put (cs := #[.int .i64 t371, .int .i64 t372, .int .u64 a1_2, .string a1_3]) ?_ 2 _ rfl; refine bx ?_; refine blk_put (cs := #[.int .i64 t371, .int .i64 a1_1, .int .u64 a1_2, .string a1_3]) ?_ 1 _ rfl; refine bx ?_; refine blk_put (cs := #[.int .i64 a1_0, .int .i64 a1_1, .int .u64 a1_2, .string a1_3]) ?_ 0 _ rfl; refine bx ?_; exact BK365.out) hb); replace BK366 := as_ (blk_below (g := gb366) (o := .cells #[.string a2_0, .string a2_1] 44 (0, 0)) (by refine bx ?_; refine blk_far ?_ NB366_365.out _; refine bx ?_; refine blk_far ?_ NB366_365.out _; refine bx ?_; refine blk_far ?_ NB366_365.out _; refine bx ?_; refine blk_far ?_ NB366_365.out _; refine bx ?_; exact BK366.out) hb); replace HB := as_ (below_step bA hb); (try clear hb); (try clear hb2); (try clear hk); (try clear hi); obtain ⟨hcz23_0, hcz23_1, hcz23_2, hcz23_3⟩ := zc4 BK365; obtain ⟨hfz23_0, hfz23_1, hfz23_2, hfz23_3⟩ := zf4 BK365) | (go_at_call 10; (with_reducible refine (col_Put.calls k t371 t372 t373 t374 t377 t378 _ A7.out).mono ?_); rintro e w24 ⟨rfl, hb⟩; clear A7; replace BK364 := bb BK364 hb; replace BK365 := bb BK365 hb; replace BK366 := bb BK366 hb; replace HB := as_ (below_step bA hb); (try clear hb); (try clear hb2); (try clear hk); (try clear hi)))
 repeat (go_quiet (first | ((with_reducible refine gate_dst (N := 3) rfl ?_); (try (refine gate_guard (by rfl) ?_; dsimp only)); refine box_event (by rfl) (N := 3) (by rfl) (cs := #[.int .i64 a0_0, .int .i64 a0_1, .int .u64 a0_2, .string a0_3]) (t := 24) gS ?_; intro gb364 hg w9 hbox hb; have BK364 := as_ (hbox); have GW364 := gw hg bA; have GE364 := gw hg bA; replace HB := as_ (below_step bA hb); clear hb hbox hg) | ((with_reducible refine gate_dst (N := 4) rfl ?_); (try (refine gate_guard (by rfl) ?_; dsimp only)); refine box_event (by rfl) (N := 4) (by rfl) (cs := #[.int .i64 a1_0, .int .i64 a1_1, .int .u64 a1_2, .string a1_3]) (t := 24) gS ?_; intro gb365 hg w10 hbox hb; have BK365 := as_ (hbox); have GW365 := gw hg bA; have GE365 := gw hg bA; have NB364_365 := nl BK364 hg; have NB365_364 := ng BK364 hg; replace BK364 := bb BK364 hb; replace HB := as_ (below_step bA hb); clear hb hbox hg) | ((with_reducible refine gate_dst (N := 5) rfl ?_); (try (refine gate_guard (by rfl) ?_; dsimp only)); refine box_event (by rfl) (N := 5) (by rfl) (cs := #[.string a2_0, .string a2_1]) (t := 44) gS ?_; intro gb366 hg w11 hbox hb; have BK366 := as_ (hbox); have GW366 := gw hg bA; have GE366 := gw hg bA; have NB364_366 := nl BK364 hg; have NB366_364 := ng BK364 hg; have NB365_366 := nl BK365 hg; have NB366_365 := ng BK365 hg; replace BK364 := bb BK364 hb; replace BK365 := bb BK365 hb; replace HB := as_ (below_step bA hb); clear hb hbox hg; have hnb12 := NB364_365.out; have hnc12 := NB365_364.out; have hnb13 := NB364_366.out; have hnc13 := NB366_364.out; obtain ⟨hcz14_0, hcz14_1, hcz14_2, hcz14_3⟩ := zc4 BK364; obtain ⟨hfz14_0, hfz14_1, hfz14_2, hfz14_3⟩ := zf4 BK364) | (go_at_call 9; (with_reducible refine (withylaw03_Cut.calls a0_0 a0_1 a0_2 a0_3 t367 t368 t369 t370 _ A4.out).mono ?_); rintro e w15 ⟨rfl, hb⟩; replace BK364 := bb BK364 hb; replace BK365 := bb BK365 hb; replace BK366 := bb BK366 hb; replace HB := as_ (below_step bA hb); (try clear hb); (try clear hb2); (try clear hk); (try clear hi); obtain ⟨hcz16_0, hcz16_1, hcz16_2, hcz16_3⟩ := zc4 BK364; obtain ⟨hfz16_0, hfz16_1, hfz16_2, hfz16_3⟩ := zf4 BK364; have hnb17 := NB365_366.out; have hnc17 := NB366_365.out; obtain ⟨hcz18_0, hcz18_1, hcz18_2, hcz18_3⟩ := zc4 BK365; obtain ⟨hfz18_0, hfz18_1, hfz18_2, hfz18_3⟩ := zf4 BK365) | (go_at_call 9; (with_reducible refine (withylaw03_Cut.calls a1_0 a1_1 a1_2 a1_3 t371 t372 t373 t374 _ A5.out).mono ?_); rintro e w19 ⟨rfl, hb⟩; replace BK364 := as_ (blk_below (g := gb364) (o := .cells #[.int .i64 t367, .int .i64 t368, .int .u64 t369, .string t370] 24 (0, 0)) (by refine bx ?_; refine blk_put (cs := #[.int .i64 t367, .int .i64 t368, .int .u64 t369, .string a0_3]) ?_ 3 _ rfl; refine bx ?_; refine blk_put (cs := #[.int .i64 t367, .int .i64 t368, .int .u64 a0_2, .string a0_3]) ?_ 2 _ rfl; refine bx ?_; refine blk_put (cs := #[.int .i64 t367, .int .i64 a0_1, .int .u64 a0_2, .string a0_3]) ?_ 1 _ rfl; refine bx ?_; refine blk_put (cs := #[.int .i64 a0_0, .int .i64 a0_1, .int .u64 a0_2, .string a0_3]) ?_ 0 _ rfl; refine bx ?_; exact BK364.out) hb); replace BK365 := as_ (blk_below (g := gb365) (o := .cells #[.int .i64 a1_0, .int .i64 a1_1, .int .u64 a1_2, .string a1_3] 24 (0, 0)) (by refine bx ?_; refine blk_far ?_ NB365_364.out _; refine bx ?_; refine blk_far ?_ NB365_364.out _; refine bx ?_; refine blk_far ?_ NB365_364.out _; refine bx ?_; refine blk_far ?_ NB365_364.out _; refine bx ?_; exact BK365.out) hb); replace BK366 := as_ (blk_below (g := gb366) (o := .cells #[.string a2_0, .string a2_1] 44 (0, 0)) (by refine bx ?_; refine blk_far ?_ NB366_364.out _; refine bx ?_; refine blk_far ?_ NB366_364.out _; refine bx ?_; refine blk_far ?_ NB366_364.out _; refine bx ?_; refine blk_far ?_ NB366_364.out _; refine bx ?_; exact BK366.out) hb); replace HB := as_ (below_step bA hb); (try clear hb); (try clear hb2); (try clear hk); (try clear hi); obtain ⟨hcz20_0, hcz20_1, hcz20_2, hcz20_3⟩ := zc4 BK365; obtain ⟨hfz20_0, hfz20_1, hfz20_2, hfz20_3⟩ := zf4 BK365; obtain ⟨hcz21_0, hcz21_1, hcz21_2, hcz21_3⟩ := zc4 BK364; obtain ⟨hfz21_0, hfz21_1, hfz21_2, hfz21_3⟩ := zf4 BK364) | (go_at_call 10; (with_reducible refine (col_Put.calls k t367 t368 t369 t370 t375 t376 _ A6.out).mono ?_); rintro e w22 ⟨rfl, hb⟩; clear A6; replace BK364 := as_ (blk_below (g := gb364) (o := .cells #[.int .i64 t367, .int .i64 t368, .int .u64 t369, .string t370] 24 (0, 0)) (by refine bx ?_; refine blk_far ?_ NB364_365.out _; refine bx ?_; refine blk_far ?_ NB364_365.out _; refine bx ?_; refine blk_far ?_ NB364_365.out _; refine bx ?_; refine blk_far ?_ NB364_365.out _; refine bx ?_; exact BK364.out) hb); replace BK365 := as_ (blk_below (g := gb365) (o := .cells #[.int .i64 t371, .int .i64 t372, .int .u64 t373, .string t374] 24 (0, 0)) (by refine bx ?_; refine blk_put (cs := #[.int .i64 t371, .int .i64 t372, .int .u64 t373, .string a1_3]) ?_ 3 _ rfl; refine bx ?_; refine blk_put (cs := #[.int .i64 t371, .int .i64 t372, .int .u64 a1_2, .string a1_3]) ?_ 2 _ rfl; refine bx ?_; refine blk_put (cs := #[.int .i64 t371, .int .i64 a1_1, .int .u64 a1_2, .string a1_3]) ?_ 1 _ rfl; refine bx ?_; refine blk_put (cs := #[.int .i64 a1_0, .int .i64 a1_1, .int .u64 a1_2, .string a1_3]) ?_ 0 _ rfl; refine bx ?_; exact BK365.out) hb); replace BK366 := as_ (blk_below (g := gb366) (o := .cells #[.string a2_0, .string a2_1] 44 (0, 0)) (by refine bx ?_; refine blk_far ?_ NB366_365.out _; refine bx ?_; refine blk_far ?_ NB366_365.out _; refine bx ?_; refine blk_far ?_ NB366_365.out _; refine bx ?_; refine blk_far ?_ NB366_365.out _; refine bx ?_; exact BK366.out) hb); replace HB := as_ (below_step bA hb); (try clear hb); (try clear hb2); (try clear hk); (try clear hi); obtain ⟨hcz23_0, hcz23_1, hcz23_2, hcz23_3⟩ := zc4 BK365; obtain ⟨hfz23_0, hfz23_1, hfz23_2, hfz23_3⟩ := zf4 BK365) | (go_at_call 10; (with_reducible refine (col_Put.calls k t371 t372 t373 t374 t377 t378 _ A7.out).mono ?_); rintro e w24 ⟨rfl, hb⟩; clear A7; replace BK364 := bb BK364 hb; replace BK365 := bb BK365 hb; replace BK366 := bb BK366 hb; replace HB := as_ (below_step bA hb); (try clear hb); (try clear hb2); (try clear hk); (try clear hi))); go_upto_region 5 with (first | ((with_reducible refine gate_dst (N := 3) rfl ?_); (try (refine gate_guard (by rfl) ?_; dsimp only)); refine box_event (by rfl) (N := 3) (by rfl) (cs := #[.int .i64 a0_0, .int .i64 a0_1, .int .u64 a0_2, .string a0_3]) (t := 24) gS ?_; intro gb364 hg w9 hbox hb; have BK364 := as_ (hbox); have GW364 := gw hg bA; have GE364 := gw hg bA; replace HB := as_ (below_step bA hb); clear hb hbox hg) | ((with_reducible refine gate_dst (N := 4) rfl ?_); (try (refine gate_guard (by rfl) ?_; dsimp only)); refine box_event (by rfl) (N := 4) (by rfl) (cs := #[.int .i64 a1_0, .int .i64 a1_1, .int .u64 a1_2, .string a1_3]) (t := 24) gS ?_; intro gb365 hg w10 hbox hb; have BK365 := as_ (hbox); have GW365 := gw hg bA; have GE365 := gw hg bA; have NB364_365 := nl BK364 hg; have NB365_364 := ng BK364 hg; replace BK364 := bb BK364 hb; replace HB := as_ (below_step bA hb); clear hb hbox hg) | ((with_reducible refine gate_dst (N := 5) rfl ?_); (try (refine gate_guard (by rfl) ?_; dsimp only)); refine box_event (by rfl) (N := 5) (by rfl) (cs := #[.string a2_0, .string a2_1]) (t := 44) gS ?_; intro gb366 hg w11 hbox hb; have BK366 := as_ (hbox); have GW366 := gw hg bA; have GE366 := gw hg bA; have NB364_366 := nl BK364 hg; have NB366_364 := ng BK364 hg; have NB365_366 := nl BK365 hg; have NB366_365 := ng BK365 hg; replace BK364 := bb BK364 hb; replace BK365 := bb BK365 hb; replace HB := as_ (below_step bA hb); clear hb hbox hg; have hnb12 := NB364_365.out; have hnc12 := NB365_364.out; have hnb13 := NB364_366.out; have hnc13 := NB366_364.out; obtain ⟨hcz14_0, hcz14_1, hcz14_2, hcz14_3⟩ := zc4 BK364; obtain ⟨hfz14_0, hfz14_1, hfz14_2, hfz14_3⟩ := zf4 BK364) | (go_at_call 9; (with_reducible refine (withylaw03_Cut.calls a0_0 a0_1 a0_2 a0_3 t367 t368 t369 t370 _ A4.out).mono ?_); rintro e w15 ⟨rfl, hb⟩; replace BK364 := bb BK364 hb; replace BK365 := bb BK365 hb; replace BK366 := bb BK366 hb; replace HB := as_ (below_step bA hb); (try clear hb); (try clear hb2); (try clear hk); (try clear hi); obtain ⟨hcz16_0, hcz16_1, hcz16_2, hcz16_3⟩ := zc4 BK364; obtain ⟨hfz16_0, hfz16_1, hfz16_2, hfz16_3⟩ := zf4 BK364; have hnb17 := NB365_366.out; have hnc17 := NB366_365.out; obtain ⟨hcz18_0, hcz18_1, hcz18_2, hcz18_3⟩ := zc4 BK365; obtain ⟨hfz18_0, hfz18_1, hfz18_2, hfz18_3⟩ := zf4 BK365) | (go_at_call 9; (with_reducible refine (withylaw03_Cut.calls a1_0 a1_1 a1_2 a1_3 t371 t372 t373 t374 _ A5.out).mono ?_); rintro e w19 ⟨rfl, hb⟩; replace BK364 := as_ (blk_below (g := gb364) (o := .cells #[.int .i64 t367, .int .i64 t368, .int .u64 t369, .string t370] 24 (0, 0)) (by refine bx ?_; refine blk_put (cs := #[.int .i64 t367, .int .i64 t368, .int .u64 t369, .string a0_3]) ?_ 3 _ rfl; refine bx ?_; refine blk_put (cs := #[.int .i64 t367, .int .i64 t368, .int .u64 a0_2, .string a0_3]) ?_ 2 _ rfl; refine bx ?_; refine blk_put (cs := #[.int .i64 t367, .int .i64 a0_1, .int .u64 a0_2, .string a0_3]) ?_ 1 _ rfl; refine bx ?_; refine blk_put (cs := #[.int .i64 a0_0, .int .i64 a0_1, .int .u64 a0_2, .string a0_3]) ?_ 0 _ rfl; refine bx ?_; exact BK364.out) hb); replace BK365 := as_ (blk_below (g := gb365) (o := .cells #[.int .i64 a1_0, .int .i64 a1_1, .int .u64 a1_2, .string a1_3] 24 (0, 0)) (by refine bx ?_; refine blk_far ?_ NB365_364.out _; refine bx ?_; refine blk_far ?_ NB365_364.out _; refine bx ?_; refine blk_far ?_ NB365_364.out _; refine bx ?_; refine blk_far ?_ NB365_364.out _; refine bx ?_; exact BK365.out) hb); replace BK366 := as_ (blk_below (g := gb366) (o := .cells #[.string a2_0, .string a2_1] 44 (0, 0)) (by refine bx ?_; refine blk_far ?_ NB366_364.out _; refine bx ?_; refine blk_far ?_ NB366_364.out _; refine bx ?_; refine blk_far ?_ NB366_364.out _; refine bx ?_; refine blk_far ?_ NB366_364.out _; refine bx ?_; exact BK366.out) hb); replace HB := as_ (below_step bA hb); (try clear hb); (try clear hb2); (try clear hk); (try clear hi); obtain ⟨hcz20_0, hcz20_1, hcz20_2, hcz20_3⟩ := zc4 BK365; obtain ⟨hfz20_0, hfz20_1, hfz20_2, hfz20_3⟩ := zf4 BK365; obtain ⟨hcz21_0, hcz21_1, hcz21_2, hcz21_3⟩ := zc4 BK364; obtain ⟨hfz21_0, hfz21_1, hfz21_2, hfz21_3⟩ := zf4 BK364) | (go_at_call 10; (with_reducible refine (col_Put.calls k t367 t368 t369 t370 t375 t376 _ A6.out).mono ?_); rintro e w22 ⟨rfl, hb⟩; clear A6; replace BK364 := as_ (blk_below (g := gb364) (o := .cells #[.int .i64 t367, .int .i64 t368, .int .u64 t369, .string t370] 24 (0, 0)) (by refine bx ?_; refine blk_far ?_ NB364_365.out _; refine bx ?_; refine blk_far ?_ NB364_365.out _; refine bx ?_; refine blk_far ?_ NB364_365.out _; refine bx ?_; refine blk_far ?_ NB364_365.out _; refine bx ?_; exact BK364.out) hb); replace BK365 := as_ (blk_below (g := gb365) (o := .cells #[.int .i64 t371, .int .i64 t372, .int .u64 t373, .string t374] 24 (0, 0)) (by refine bx ?_; refine blk_put (cs := #[.int .i64 t371, .int .i64 t372, .int .u64 t373, .string a1_3]) ?_ 3 _ rfl; refine bx ?_; refine blk_put (cs := #[.int .i64 t371, .int .i64 t372, .int .u64 a1_2, .string a1_3]) ?_ 2 _ rfl; refine bx ?_; refine blk_put (cs := #[.int .i64 t371, .int .i64 a1_1, .int .u64 a1_2, .string a1_3]) ?_ 1 _ rfl; refine bx ?_; refine blk_put (cs := #[.int .i64 a1_0, .int .i64 a1_1, .int .u64 a1_2, .string a1_3]) ?_ 0 _ rfl; refine bx ?_; exact BK365.out) hb); replace BK366 := as_ (blk_below (g := gb366) (o := .cells #[.string a2_0, .string a2_1] 44 (0, 0)) (by refine bx ?_; refine blk_far ?_ NB366_365.out _; refine bx ?_; refine blk_far ?_ NB366_365.out _; refine bx ?_; refine blk_far ?_ NB366_365.out _; refine bx ?_; refine blk_far ?_ NB366_365.out _; refine bx ?_; exact BK366.out) hb); replace HB := as_ (below_step bA hb); (try clear hb); (try clear hb2); (try clear hk); (try clear hi); obtain ⟨hcz23_0, hcz23_1, hcz23_2, hcz23_3⟩ := zc4 BK365; obtain ⟨hfz23_0, hfz23_1, hfz23_2, hfz23_3⟩ := zf4 BK365) | (go_at_call 10; (with_reducible refine (col_Put.calls k t371 t372 t373 t374 t377 t378 _ A7.out).mono ?_); rintro e w24 ⟨rfl, hb⟩; clear A7; replace BK364 := bb BK364 hb; replace BK365 := bb BK365 hb; replace BK366 := bb BK366 hb; replace HB := as_ (below_step bA hb); (try clear hb); (try clear hb2); (try clear hk); (try clear hi))))
 (try simp only [Act.put, List.setIfInBounds_toArray, List.set_cons_zero, List.set_cons_succ])
 go_cut [34] (fun v34 wc => ∃ (kq : Nat) (x34_7 : Bool), v34 = .bool x34_7 ∧ Aside0 (withylaw03_ColOrder.j0 kq t375 t377 x34_7 t367 t368 t369 t370 t371 t372 t373 t374 a2_0 a2_1 = some r) ∧ Aside0 (kq ≤ k) ∧ Aside0 (wc.heap[gb364]? = some (.cells #[.int .i64 t367, .int .i64 t368, .int .u64 t369, .string t370] 24 (0, 0))) ∧ Aside0 (wc.heap[gb365]? = some (.cells #[.int .i64 t371, .int .i64 t372, .int .u64 t373, .string t374] 24 (0, 0))) ∧ Aside0 (wc.heap[gb366]? = some (.cells #[.string a2_0, .string a2_1] 44 (0, 0))) ∧ Aside0 (Below w.heap.size w wc))
 case first =>
  have H := HC8.out
  clear HC8
  by_cases c25 : t376 = 0
  rotate_left
  ·rw [if_neg c25] at H
   have c25b0 : (t376 == 0) = false := beq_eq_false_iff_ne.mpr c25
   have c25b1 : (t376 != 0) = true := bne_iff_ne.mpr c25
   (first | rw [c25b0] | (simp only [i64_w, i32_w]; rw [c25b0]) | rw [c25b1] | skip)
   have H' := Aside0.mk H
   clear H
   go_wp2
   repeat (go_quiet (fail); try go_wp2)
   go_meet
   case rel => exact ⟨_, (true), (by first | rfl | (simp; done) | (simp [*]; done)), H', ⟨by first | omega | exact Nat.le_refl _⟩, ⟨by refine bx ?_; exact BK364.out⟩, ⟨by refine bx ?_; exact BK365.out⟩, ⟨by refine bx ?_; exact BK366.out⟩, ⟨by repeat (first | (with_reducible first | exact HB.out | apply below_alloc | apply pw_below_drewN | apply below_drew1 | refine below_set ?_ GE364.out | refine below_set ?_ GE365.out | refine below_set ?_ GE366.out) | exact HB.out)⟩⟩
  rw [if_pos c25] at H
  have c25b0 : (t376 == 0) = true := beq_iff_eq.mpr c25
  have c25b1 : (t376 != 0) = false := bne_eq_false_iff_eq.mpr c25
  clear c25
  (first | rw [c25b0] | (simp only [i64_w, i32_w]; rw [c25b0]) | rw [c25b1] | skip)
  have H' := Aside0.mk H
  clear H
  go_wp2
  repeat (go_quiet (fail); try go_wp2)
  go_meet
  case rel => exact ⟨_, ((t378 != 0)), (by first | rfl | (simp; done) | (simp [*]; done)), H', ⟨by first | omega | exact Nat.le_refl _⟩, ⟨by refine bx ?_; exact BK364.out⟩, ⟨by refine bx ?_; exact BK365.out⟩, ⟨by refine bx ?_; exact BK366.out⟩, ⟨by repeat (first | (with_reducible first | exact HB.out | apply below_alloc | apply pw_below_drewN | apply below_drew1 | refine below_set ?_ GE364.out | refine below_set ?_ GE365.out | refine below_set ?_ GE366.out) | exact HB.out)⟩⟩
 case rest =>
  clear HC8
  try clear c1
  try clear c2
  try clear p2
  try clear c4
  try clear c12
  try clear c13
  try clear c17
  try clear c25
  try clear c25b0
  try clear c25b1
  try clear hcz14_0
  try clear hcz14_1
  try clear hcz14_2
  try clear hcz14_3
  try clear hcz16_0
  try clear hcz16_1
  try clear hcz16_2
  try clear hcz16_3
  try clear hcz18_0
  try clear hcz18_1
  try clear hcz18_2
  try clear hcz18_3
  try clear hcz20_0
  try clear hcz20_1
  try clear hcz20_2
  try clear hcz20_3
  try clear hcz21_0
  try clear hcz21_1
  try clear hcz21_2
  try clear hcz21_3
  try clear hcz23_0
  try clear hcz23_1
  try clear hcz23_2
  try clear hcz23_3
  try clear hfz14_0
  try clear hfz14_1
  try clear hfz14_2
  try clear hfz14_3
  try clear hfz16_0
  try clear hfz16_1
  try clear hfz16_2
  try clear hfz16_3
  try clear hfz18_0
  try clear hfz18_1
  try clear hfz18_2
  try clear hfz18_3
  try clear hfz20_0
  try clear hfz20_1
  try clear hfz20_2
  try clear hfz20_3
  try clear hfz21_0
  try clear hfz21_1
  try clear hfz21_2
  try clear hfz21_3
  try clear hfz23_0
  try clear hfz23_1
  try clear hfz23_2
  try clear hfz23_3
  obtain ⟨kq, x34_7, rfl, HA, HJ7, BK364, BK365, BK366, HB⟩ := hcut
  cases kq with
  | zero => exact absurd HA.out (by simp [withylaw03_ColOrder.j0])
  | succ kj7 =>
   have H := HA.out
   clear HA
   simp only [withylaw03_ColOrder.j0] at H
   by_cases c26 : x34_7 = true
   ·subst c26
    have H1 : ((withylaw03_fixed.f kj7).bind fun t379 => (some t379)) = some r := by rw [if_pos rfl] at H; exact H
    clear H
    have H := H1
    clear H1
    replace H := bM H
    obtain ⟨t379, A270, H⟩ := H
    replace H : (some t379) = some r := H
    have A27 := Aside0.mk A270
    clear A270
    obtain rfl := Option.some.inj H
    go_wp2_with (first | (go_at_call 19; (with_reducible refine (withylaw03_fixed.calls kj7  t379 _ A27.out).mono ?_); rintro e w28 ⟨rfl, hb⟩; replace BK364 := bb BK364 hb; replace BK365 := bb BK365 hb; replace BK366 := bb BK366 hb; replace HB := as_ (below_step bA hb); (try clear hb); (try clear hb2); (try clear hk); (try clear hi)))
    repeat (go_quiet (first | (go_at_call 19; (with_reducible refine (withylaw03_fixed.calls kj7  t379 _ A27.out).mono ?_); rintro e w28 ⟨rfl, hb⟩; replace BK364 := bb BK364 hb; replace BK365 := bb BK365 hb; replace BK366 := bb BK366 hb; replace HB := as_ (below_step bA hb); (try clear hb); (try clear hb2); (try clear hk); (try clear hi))); try go_wp2_with (first | (go_at_call 19; (with_reducible refine (withylaw03_fixed.calls kj7  t379 _ A27.out).mono ?_); rintro e w28 ⟨rfl, hb⟩; replace BK364 := bb BK364 hb; replace BK365 := bb BK365 hb; replace BK366 := bb BK366 hb; replace HB := as_ (below_step bA hb); (try clear hb); (try clear hb2); (try clear hk); (try clear hi))))
    go_ret
    exact ⟨eW, by repeat (first | (with_reducible first | exact HB.out | apply below_alloc | apply pw_below_drewN | apply below_drew1 | refine below_set ?_ GE364.out | refine below_set ?_ GE365.out | refine below_set ?_ GE366.out) | exact HB.out)⟩
   replace c26 := Bool.eq_false_iff.mpr c26
   subst c26
   have H1 : (if 0 ≤ (mn (a2_0.size : Int) 20) then (if (mn (a2_0.size : Int) 20) ≤ (a2_0.size : Int) then (if t375.size + (a2_0.extract 0 ((mn (a2_0.size : Int) 20) : Int).toNat).size ≤ 9223372036854775807 then (if 0 ≤ (mn (a2_1.size : Int) 20) then (if (mn (a2_1.size : Int) 20) ≤ (a2_1.size : Int) then (if t377.size + (a2_1.extract 0 ((mn (a2_1.size : Int) 20) : Int).toNat).size ≤ 9223372036854775807 then (if (t375.size : Int) ≤ (t377.size : Int) then (if 0 ≤ (t375.size : Int) then (if (t377.extract 0 t375.size).toList = t375.toList then ((col_Compare.f kj7 t367 t368 t369 t370 t371 t372 t373 t374).bind fun t380 => (if ((decide (t380 < 0)) == (Op.bytesLess t375.toList t377.toList)) = true then (if ((t380 == 0) == (t375.toList == t377.toList)) = true then (if (true == (t380 == 0)) = true then (if t380 = 0 then (if ((t380 == 0) == (t367 == t371 && (t368 == t372 && (t369 == t373 && (t370.toList == t374.toList))))) = true then ((withylaw03_fixed.f kj7).bind fun t381 => (some t381)) else (none)) else (if ((decide (t380 < 0)) == (Op.bytesLess ((t375 ++ (a2_0.extract 0 ((mn (a2_0.size : Int) 20) : Int).toNat)).toList) ((t377 ++ (a2_1.extract 0 ((mn (a2_1.size : Int) 20) : Int).toNat)).toList))) = true then (if ((t380 == 0) == (t367 == t371 && (t368 == t372 && (t369 == t373 && (t370.toList == t374.toList))))) = true then ((withylaw03_fixed.f kj7).bind fun t382 => (some t382)) else (none)) else (none))) else (none)) else (none)) else (none))) else (if (t377.size : Int) ≤ (t375.size : Int) then (if 0 ≤ (t377.size : Int) then ((col_Compare.f kj7 t367 t368 t369 t370 t371 t372 t373 t374).bind fun t383 => (if ((decide (t383 < 0)) == (Op.bytesLess t375.toList t377.toList)) = true then (if ((t383 == 0) == (t375.toList == t377.toList)) = true then (if (((t375.extract 0 t377.size).toList == t377.toList) == (t383 == 0)) = true then (if t383 = 0 then (if ((t383 == 0) == (t367 == t371 && (t368 == t372 && (t369 == t373 && (t370.toList == t374.toList))))) = true then ((withylaw03_fixed.f kj7).bind fun t384 => (some t384)) else (none)) else (if ((decide (t383 < 0)) == (Op.bytesLess ((t375 ++ (a2_0.extract 0 ((mn (a2_0.size : Int) 20) : Int).toNat)).toList) ((t377 ++ (a2_1.extract 0 ((mn (a2_1.size : Int) 20) : Int).toNat)).toList))) = true then (if ((t383 == 0) == (t367 == t371 && (t368 == t372 && (t369 == t373 && (t370.toList == t374.toList))))) = true then ((withylaw03_fixed.f kj7).bind fun t385 => (some t385)) else (none)) else (none))) else (none)) else (none)) else (none))) else (none)) else ((col_Compare.f kj7 t367 t368 t369 t370 t371 t372 t373 t374).bind fun t386 => (if ((decide (t386 < 0)) == (Op.bytesLess t375.toList t377.toList)) = true then (if ((t386 == 0) == (t375.toList == t377.toList)) = true then (if (false == (t386 == 0)) = true then (if t386 = 0 then (if ((t386 == 0) == (t367 == t371 && (t368 == t372 && (t369 == t373 && (t370.toList == t374.toList))))) = true then ((withylaw03_fixed.f kj7).bind fun t387 => (some t387)) else (none)) else (if ((decide (t386 < 0)) == (Op.bytesLess ((t375 ++ (a2_0.extract 0 ((mn (a2_0.size : Int) 20) : Int).toNat)).toList) ((t377 ++ (a2_1.extract 0 ((mn (a2_1.size : Int) 20) : Int).toNat)).toList))) = true then (if ((t386 == 0) == (t367 == t371 && (t368 == t372 && (t369 == t373 && (t370.toList == t374.toList))))) = true then ((withylaw03_fixed.f kj7).bind fun t388 => (some t388)) else (none)) else (none))) else (none)) else (none)) else (none))))) else (none)) else (if (t377.size : Int) ≤ (t375.size : Int) then (if 0 ≤ (t377.size : Int) then ((col_Compare.f kj7 t367 t368 t369 t370 t371 t372 t373 t374).bind fun t389 => (if ((decide (t389 < 0)) == (Op.bytesLess t375.toList t377.toList)) = true then (if ((t389 == 0) == (t375.toList == t377.toList)) = true then (if (((t375.extract 0 t377.size).toList == t377.toList) == (t389 == 0)) = true then (if t389 = 0 then (if ((t389 == 0) == (t367 == t371 && (t368 == t372 && (t369 == t373 && (t370.toList == t374.toList))))) = true then ((withylaw03_fixed.f kj7).bind fun t390 => (some t390)) else (none)) else (if ((decide (t389 < 0)) == (Op.bytesLess ((t375 ++ (a2_0.extract 0 ((mn (a2_0.size : Int) 20) : Int).toNat)).toList) ((t377 ++ (a2_1.extract 0 ((mn (a2_1.size : Int) 20) : Int).toNat)).toList))) = true then (if ((t389 == 0) == (t367 == t371 && (t368 == t372 && (t369 == t373 && (t370.toList == t374.toList))))) = true then ((withylaw03_fixed.f kj7).bind fun t391 => (some t391)) else (none)) else (none))) else (none)) else (none)) else (none))) else (none)) else ((col_Compare.f kj7 t367 t368 t369 t370 t371 t372 t373 t374).bind fun t392 => (if ((decide (t392 < 0)) == (Op.bytesLess t375.toList t377.toList)) = true then (if ((t392 == 0) == (t375.toList == t377.toList)) = true then (if (false == (t392 == 0)) = true then (if t392 = 0 then (if ((t392 == 0) == (t367 == t371 && (t368 == t372 && (t369 == t373 && (t370.toList == t374.toList))))) = true then ((withylaw03_fixed.f kj7).bind fun t393 => (some t393)) else (none)) else (if ((decide (t392 < 0)) == (Op.bytesLess ((t375 ++ (a2_0.extract 0 ((mn (a2_0.size : Int) 20) : Int).toNat)).toList) ((t377 ++ (a2_1.extract 0 ((mn (a2_1.size : Int) 20) : Int).toNat)).toList))) = true then (if ((t392 == 0) == (t367 == t371 && (t368 == t372 && (t369 == t373 && (t370.toList == t374.toList))))) = true then ((withylaw03_fixed.f kj7).bind fun t394 => (some t394)) else (none)) else (none))) else (none)) else (none)) else (none))))) else (none)) else (none)) else (none)) else (none)) else (none)) else (none)) = some r := by rw [if_neg (show ¬ (false = true) by decide)] at H; exact H
   clear H
   have H := H1
   clear H1
   obtain ⟨ji29, hji29⟩ : ∃ j_ : Int, (mn (a2_0.size : Int) 20) = j_ := ⟨_, rfl⟩
   replace H : (if 0 ≤ (ji29) then (if (ji29) ≤ (a2_0.size : Int) then (if t375.size + (a2_0.extract 0 ((ji29) : Int).toNat).size ≤ 9223372036854775807 then (if 0 ≤ (mn (a2_1.size : Int) 20) then (if (mn (a2_1.size : Int) 20) ≤ (a2_1.size : Int) then (if t377.size + (a2_1.extract 0 ((mn (a2_1.size : Int) 20) : Int).toNat).size ≤ 9223372036854775807 then (if (t375.size : Int) ≤ (t377.size : Int) then (if 0 ≤ (t375.size : Int) then (if (t377.extract 0 t375.size).toList = t375.toList then ((col_Compare.f kj7 t367 t368 t369 t370 t371 t372 t373 t374).bind fun t380 => (if ((decide (t380 < 0)) == (Op.bytesLess t375.toList t377.toList)) = true then (if ((t380 == 0) == (t375.toList == t377.toList)) = true then (if (true == (t380 == 0)) = true then (if t380 = 0 then (if ((t380 == 0) == (t367 == t371 && (t368 == t372 && (t369 == t373 && (t370.toList == t374.toList))))) = true then ((withylaw03_fixed.f kj7).bind fun t381 => (some t381)) else (none)) else (if ((decide (t380 < 0)) == (Op.bytesLess ((t375 ++ (a2_0.extract 0 ((ji29) : Int).toNat)).toList) ((t377 ++ (a2_1.extract 0 ((mn (a2_1.size : Int) 20) : Int).toNat)).toList))) = true then (if ((t380 == 0) == (t367 == t371 && (t368 == t372 && (t369 == t373 && (t370.toList == t374.toList))))) = true then ((withylaw03_fixed.f kj7).bind fun t382 => (some t382)) else (none)) else (none))) else (none)) else (none)) else (none))) else (if (t377.size : Int) ≤ (t375.size : Int) then (if 0 ≤ (t377.size : Int) then ((col_Compare.f kj7 t367 t368 t369 t370 t371 t372 t373 t374).bind fun t383 => (if ((decide (t383 < 0)) == (Op.bytesLess t375.toList t377.toList)) = true then (if ((t383 == 0) == (t375.toList == t377.toList)) = true then (if (((t375.extract 0 t377.size).toList == t377.toList) == (t383 == 0)) = true then (if t383 = 0 then (if ((t383 == 0) == (t367 == t371 && (t368 == t372 && (t369 == t373 && (t370.toList == t374.toList))))) = true then ((withylaw03_fixed.f kj7).bind fun t384 => (some t384)) else (none)) else (if ((decide (t383 < 0)) == (Op.bytesLess ((t375 ++ (a2_0.extract 0 ((ji29) : Int).toNat)).toList) ((t377 ++ (a2_1.extract 0 ((mn (a2_1.size : Int) 20) : Int).toNat)).toList))) = true then (if ((t383 == 0) == (t367 == t371 && (t368 == t372 && (t369 == t373 && (t370.toList == t374.toList))))) = true then ((withylaw03_fixed.f kj7).bind fun t385 => (some t385)) else (none)) else (none))) else (none)) else (none)) else (none))) else (none)) else ((col_Compare.f kj7 t367 t368 t369 t370 t371 t372 t373 t374).bind fun t386 => (if ((decide (t386 < 0)) == (Op.bytesLess t375.toList t377.toList)) = true then (if ((t386 == 0) == (t375.toList == t377.toList)) = true then (if (false == (t386 == 0)) = true then (if t386 = 0 then (if ((t386 == 0) == (t367 == t371 && (t368 == t372 && (t369 == t373 && (t370.toList == t374.toList))))) = true then ((withylaw03_fixed.f kj7).bind fun t387 => (some t387)) else (none)) else (if ((decide (t386 < 0)) == (Op.bytesLess ((t375 ++ (a2_0.extract 0 ((ji29) : Int).toNat)).toList) ((t377 ++ (a2_1.extract 0 ((mn (a2_1.size : Int) 20) : Int).toNat)).toList))) = true then (if ((t386 == 0) == (t367 == t371 && (t368 == t372 && (t369 == t373 && (t370.toList == t374.toList))))) = true then ((withylaw03_fixed.f kj7).bind fun t388 => (some t388)) else (none)) else (none))) else (none)) else (none)) else (none))))) else (none)) else (if (t377.size : Int) ≤ (t375.size : Int) then (if 0 ≤ (t377.size : Int) then ((col_Compare.f kj7 t367 t368 t369 t370 t371 t372 t373 t374).bind fun t389 => (if ((decide (t389 < 0)) == (Op.bytesLess t375.toList t377.toList)) = true then (if ((t389 == 0) == (t375.toList == t377.toList)) = true then (if (((t375.extract 0 t377.size).toList == t377.toList) == (t389 == 0)) = true then (if t389 = 0 then (if ((t389 == 0) == (t367 == t371 && (t368 == t372 && (t369 == t373 && (t370.toList == t374.toList))))) = true then ((withylaw03_fixed.f kj7).bind fun t390 => (some t390)) else (none)) else (if ((decide (t389 < 0)) == (Op.bytesLess ((t375 ++ (a2_0.extract 0 ((ji29) : Int).toNat)).toList) ((t377 ++ (a2_1.extract 0 ((mn (a2_1.size : Int) 20) : Int).toNat)).toList))) = true then (if ((t389 == 0) == (t367 == t371 && (t368 == t372 && (t369 == t373 && (t370.toList == t374.toList))))) = true then ((withylaw03_fixed.f kj7).bind fun t391 => (some t391)) else (none)) else (none))) else (none)) else (none)) else (none))) else (none)) else ((col_Compare.f kj7 t367 t368 t369 t370 t371 t372 t373 t374).bind fun t392 => (if ((decide (t392 < 0)) == (Op.bytesLess t375.toList t377.toList)) = true then (if ((t392 == 0) == (t375.toList == t377.toList)) = true then (if (false == (t392 == 0)) = true then (if t392 = 0 then (if ((t392 == 0) == (t367 == t371 && (t368 == t372 && (t369 == t373 && (t370.toList == t374.toList))))) = true then ((withylaw03_fixed.f kj7).bind fun t393 => (some t393)) else (none)) else (if ((decide (t392 < 0)) == (Op.bytesLess ((t375 ++ (a2_0.extract 0 ((ji29) : Int).toNat)).toList) ((t377 ++ (a2_1.extract 0 ((mn (a2_1.size : Int) 20) : Int).toNat)).toList))) = true then (if ((t392 == 0) == (t367 == t371 && (t368 == t372 && (t369 == t373 && (t370.toList == t374.toList))))) = true then ((withylaw03_fixed.f kj7).bind fun t394 => (some t394)) else (none)) else (none))) else (none)) else (none)) else (none))))) else (none)) else (none)) else (none)) else (none)) else (none)) else (none)) = some r := by first | (rw [hji29] at H; exact H) | (simp only [hji29] at H ⊢; exact H)
   have hji29_ : (if 20 < (a2_0.size : Int) then 20 else (a2_0.size : Int)) = ji29 := hji29
   by_cases c30 : 0 ≤ (ji29)
   rotate_left
   ·rw [if_neg c30] at H
    exact absurd H (by simp)
 
   rw [if_pos c30] at H
   have c30b0 := eq_true c30
   have c30b1 : decide (0 ≤ (ji29)) = true := decide_eq_true c30
   clear c30
   by_cases c31 : (ji29) ≤ (a2_0.size : Int)
   rotate_left
   ·rw [if_neg c31] at H
    exact absurd H (by simp)
   rw [if_pos c31] at H
   have c31b0 := eq_true c31
   have c31b1 : decide ((ji29) ≤ (a2_0.size : Int)) = true := decide_eq_true c31
   clear c31
   obtain ⟨js32, hjs32⟩ : ∃ j_ : ByteArray, (a2_0.extract 0 ((ji29) : Int).toNat) = j_ := ⟨_, rfl⟩
   replace H : (if t375.size + (js32).size ≤ 9223372036854775807 then (if 0 ≤ (mn (a2_1.size : Int) 20) then (if (mn (a2_1.size : Int) 20) ≤ (a2_1.size : Int) then (if t377.size + (a2_1.extract 0 ((mn (a2_1.size : Int) 20) : Int).toNat).size ≤ 9223372036854775807 then (if (t375.size : Int) ≤ (t377.size : Int) then (if 0 ≤ (t375.size : Int) then (if (t377.extract 0 t375.size).toList = t375.toList then ((col_Compare.f kj7 t367 t368 t369 t370 t371 t372 t373 t374).bind fun t380 => (if ((decide (t380 < 0)) == (Op.bytesLess t375.toList t377.toList)) = true then (if ((t380 == 0) == (t375.toList == t377.toList)) = true then (if (true == (t380 == 0)) = true then (if t380 = 0 then (if ((t380 == 0) == (t367 == t371 && (t368 == t372 && (t369 == t373 && (t370.toList == t374.toList))))) = true then ((withylaw03_fixed.f kj7).bind fun t381 => (some t381)) else (none)) else (if ((decide (t380 < 0)) == (Op.bytesLess ((t375 ++ (js32)).toList) ((t377 ++ (a2_1.extract 0 ((mn (a2_1.size : Int) 20) : Int).toNat)).toList))) = true then (if ((t380 == 0) == (t367 == t371 && (t368 == t372 && (t369 == t373 && (t370.toList == t374.toList))))) = true then ((withylaw03_fixed.f kj7).bind fun t382 => (some t382)) else (none)) else (none))) else (none)) else (none)) else (none))) else (if (t377.size : Int) ≤ (t375.size : Int) then (if 0 ≤ (t377.size : Int) then ((col_Compare.f kj7 t367 t368 t369 t370 t371 t372 t373 t374).bind fun t383 => (if ((decide (t383 < 0)) == (Op.bytesLess t375.toList t377.toList)) = true then (if ((t383 == 0) == (t375.toList == t377.toList)) = true then (if (((t375.extract 0 t377.size).toList == t377.toList) == (t383 == 0)) = true then (if t383 = 0 then (if ((t383 == 0) == (t367 == t371 && (t368 == t372 && (t369 == t373 && (t370.toList == t374.toList))))) = true then ((withylaw03_fixed.f kj7).bind fun t384 => (some t384)) else (none)) else (if ((decide (t383 < 0)) == (Op.bytesLess ((t375 ++ (js32)).toList) ((t377 ++ (a2_1.extract 0 ((mn (a2_1.size : Int) 20) : Int).toNat)).toList))) = true then (if ((t383 == 0) == (t367 == t371 && (t368 == t372 && (t369 == t373 && (t370.toList == t374.toList))))) = true then ((withylaw03_fixed.f kj7).bind fun t385 => (some t385)) else (none)) else (none))) else (none)) else (none)) else (none))) else (none)) else ((col_Compare.f kj7 t367 t368 t369 t370 t371 t372 t373 t374).bind fun t386 => (if ((decide (t386 < 0)) == (Op.bytesLess t375.toList t377.toList)) = true then (if ((t386 == 0) == (t375.toList == t377.toList)) = true then (if (false == (t386 == 0)) = true then (if t386 = 0 then (if ((t386 == 0) == (t367 == t371 && (t368 == t372 && (t369 == t373 && (t370.toList == t374.toList))))) = true then ((withylaw03_fixed.f kj7).bind fun t387 => (some t387)) else (none)) else (if ((decide (t386 < 0)) == (Op.bytesLess ((t375 ++ (js32)).toList) ((t377 ++ (a2_1.extract 0 ((mn (a2_1.size : Int) 20) : Int).toNat)).toList))) = true then (if ((t386 == 0) == (t367 == t371 && (t368 == t372 && (t369 == t373 && (t370.toList == t374.toList))))) = true then ((withylaw03_fixed.f kj7).bind fun t388 => (some t388)) else (none)) else (none))) else (none)) else (none)) else (none))))) else (none)) else (if (t377.size : Int) ≤ (t375.size : Int) then (if 0 ≤ (t377.size : Int) then ((col_Compare.f kj7 t367 t368 t369 t370 t371 t372 t373 t374).bind fun t389 => (if ((decide (t389 < 0)) == (Op.bytesLess t375.toList t377.toList)) = true then (if ((t389 == 0) == (t375.toList == t377.toList)) = true then (if (((t375.extract 0 t377.size).toList == t377.toList) == (t389 == 0)) = true then (if t389 = 0 then (if ((t389 == 0) == (t367 == t371 && (t368 == t372 && (t369 == t373 && (t370.toList == t374.toList))))) = true then ((withylaw03_fixed.f kj7).bind fun t390 => (some t390)) else (none)) else (if ((decide (t389 < 0)) == (Op.bytesLess ((t375 ++ (js32)).toList) ((t377 ++ (a2_1.extract 0 ((mn (a2_1.size : Int) 20) : Int).toNat)).toList))) = true then (if ((t389 == 0) == (t367 == t371 && (t368 == t372 && (t369 == t373 && (t370.toList == t374.toList))))) = true then ((withylaw03_fixed.f kj7).bind fun t391 => (some t391)) else (none)) else (none))) else (none)) else (none)) else (none))) else (none)) else ((col_Compare.f kj7 t367 t368 t369 t370 t371 t372 t373 t374).bind fun t392 => (if ((decide (t392 < 0)) == (Op.bytesLess t375.toList t377.toList)) = true then (if ((t392 == 0) == (t375.toList == t377.toList)) = true then (if (false == (t392 == 0)) = true then (if t392 = 0 then (if ((t392 == 0) == (t367 == t371 && (t368 == t372 && (t369 == t373 && (t370.toList == t374.toList))))) = true then ((withylaw03_fixed.f kj7).bind fun t393 => (some t393)) else (none)) else (if ((decide (t392 < 0)) == (Op.bytesLess ((t375 ++ (js32)).toList) ((t377 ++ (a2_1.extract 0 ((mn (a2_1.size : Int) 20) : Int).toNat)).toList))) = true then (if ((t392 == 0) == (t367 == t371 && (t368 == t372 && (t369 == t373 && (t370.toList == t374.toList))))) = true then ((withylaw03_fixed.f kj7).bind fun t394 => (some t394)) else (none)) else (none))) else (none)) else (none)) else (none))))) else (none)) else (none)) else (none)) else (none)) = some r := by first | (rw [hjs32] at H; exact H) | (simp only [hjs32] at H ⊢; exact H)
   by_cases c33 : t375.size + (js32).size ≤ 9223372036854775807
   rotate_left
   ·rw [if_neg c33] at H
    exact absurd H (by simp)
   rw [if_pos c33] at H
   have c33b0 := eq_true c33
   have c33b1 : decide (t375.size + (js32).size ≤ 9223372036854775807) = true := decide_eq_true c33
   try have c33b2 : (9223372036854775807 < t375.size + (js32).size) = False := eq_false (Nat.not_lt.2 c33)
   obtain ⟨js34, hjs34⟩ : ∃ j_ : ByteArray, (t375 ++ (js32)) = j_ := ⟨_, rfl⟩
   replace H : (if 0 ≤ (mn (a2_1.size : Int) 20) then (if (mn (a2_1.size : Int) 20) ≤ (a2_1.size : Int) then (if t377.size + (a2_1.extract 0 ((mn (a2_1.size : Int) 20) : Int).toNat).size ≤ 9223372036854775807 then (if (t375.size : Int) ≤ (t377.size : Int) then (if 0 ≤ (t375.size : Int) then (if (t377.extract 0 t375.size).toList = t375.toList then ((col_Compare.f kj7 t367 t368 t369 t370 t371 t372 t373 t374).bind fun t380 => (if ((decide (t380 < 0)) == (Op.bytesLess t375.toList t377.toList)) = true then (if ((t380 == 0) == (t375.toList == t377.toList)) = true then (if (true == (t380 == 0)) = true then (if t380 = 0 then (if ((t380 == 0) == (t367 == t371 && (t368 == t372 && (t369 == t373 && (t370.toList == t374.toList))))) = true then ((withylaw03_fixed.f kj7).bind fun t381 => (some t381)) else (none)) else (if ((decide (t380 < 0)) == (Op.bytesLess ((js34).toList) ((t377 ++ (a2_1.extract 0 ((mn (a2_1.size : Int) 20) : Int).toNat)).toList))) = true then (if ((t380 == 0) == (t367 == t371 && (t368 == t372 && (t369 == t373 && (t370.toList == t374.toList))))) = true then ((withylaw03_fixed.f kj7).bind fun t382 => (some t382)) else (none)) else (none))) else (none)) else (none)) else (none))) else (if (t377.size : Int) ≤ (t375.size : Int) then (if 0 ≤ (t377.size : Int) then ((col_Compare.f kj7 t367 t368 t369 t370 t371 t372 t373 t374).bind fun t383 => (if ((decide (t383 < 0)) == (Op.bytesLess t375.toList t377.toList)) = true then (if ((t383 == 0) == (t375.toList == t377.toList)) = true then (if (((t375.extract 0 t377.size).toList == t377.toList) == (t383 == 0)) = true then (if t383 = 0 then (if ((t383 == 0) == (t367 == t371 && (t368 == t372 && (t369 == t373 && (t370.toList == t374.toList))))) = true then ((withylaw03_fixed.f kj7).bind fun t384 => (some t384)) else (none)) else (if ((decide (t383 < 0)) == (Op.bytesLess ((js34).toList) ((t377 ++ (a2_1.extract 0 ((mn (a2_1.size : Int) 20) : Int).toNat)).toList))) = true then (if ((t383 == 0) == (t367 == t371 && (t368 == t372 && (t369 == t373 && (t370.toList == t374.toList))))) = true then ((withylaw03_fixed.f kj7).bind fun t385 => (some t385)) else (none)) else (none))) else (none)) else (none)) else (none))) else (none)) else ((col_Compare.f kj7 t367 t368 t369 t370 t371 t372 t373 t374).bind fun t386 => (if ((decide (t386 < 0)) == (Op.bytesLess t375.toList t377.toList)) = true then (if ((t386 == 0) == (t375.toList == t377.toList)) = true then (if (false == (t386 == 0)) = true then (if t386 = 0 then (if ((t386 == 0) == (t367 == t371 && (t368 == t372 && (t369 == t373 && (t370.toList == t374.toList))))) = true then ((withylaw03_fixed.f kj7).bind fun t387 => (some t387)) else (none)) else (if ((decide (t386 < 0)) == (Op.bytesLess ((js34).toList) ((t377 ++ (a2_1.extract 0 ((mn (a2_1.size : Int) 20) : Int).toNat)).toList))) = true then (if ((t386 == 0) == (t367 == t371 && (t368 == t372 && (t369 == t373 && (t370.toList == t374.toList))))) = true then ((withylaw03_fixed.f kj7).bind fun t388 => (some t388)) else (none)) else (none))) else (none)) else (none)) else (none))))) else (none)) else (if (t377.size : Int) ≤ (t375.size : Int) then (if 0 ≤ (t377.size : Int) then ((col_Compare.f kj7 t367 t368 t369 t370 t371 t372 t373 t374).bind fun t389 => (if ((decide (t389 < 0)) == (Op.bytesLess t375.toList t377.toList)) = true then (if ((t389 == 0) == (t375.toList == t377.toList)) = true then (if (((t375.extract 0 t377.size).toList == t377.toList) == (t389 == 0)) = true then (if t389 = 0 then (if ((t389 == 0) == (t367 == t371 && (t368 == t372 && (t369 == t373 && (t370.toList == t374.toList))))) = true then ((withylaw03_fixed.f kj7).bind fun t390 => (some t390)) else (none)) else (if ((decide (t389 < 0)) == (Op.bytesLess ((js34).toList) ((t377 ++ (a2_1.extract 0 ((mn (a2_1.size : Int) 20) : Int).toNat)).toList))) = true then (if ((t389 == 0) == (t367 == t371 && (t368 == t372 && (t369 == t373 && (t370.toList == t374.toList))))) = true then ((withylaw03_fixed.f kj7).bind fun t391 => (some t391)) else (none)) else (none))) else (none)) else (none)) else (none))) else (none)) else ((col_Compare.f kj7 t367 t368 t369 t370 t371 t372 t373 t374).bind fun t392 => (if ((decide (t392 < 0)) == (Op.bytesLess t375.toList t377.toList)) = true then (if ((t392 == 0) == (t375.toList == t377.toList)) = true then (if (false == (t392 == 0)) = true then (if t392 = 0 then (if ((t392 == 0) == (t367 == t371 && (t368 == t372 && (t369 == t373 && (t370.toList == t374.toList))))) = true then ((withylaw03_fixed.f kj7).bind fun t393 => (some t393)) else (none)) else (if ((decide (t392 < 0)) == (Op.bytesLess ((js34).toList) ((t377 ++ (a2_1.extract 0 ((mn (a2_1.size : Int) 20) : Int).toNat)).toList))) = true then (if ((t392 == 0) == (t367 == t371 && (t368 == t372 && (t369 == t373 && (t370.toList == t374.toList))))) = true then ((withylaw03_fixed.f kj7).bind fun t394 => (some t394)) else (none)) else (none))) else (none)) else (none)) else (none))))) else (none)) else (none)) else (none)) = some r := by first | (rw [hjs34] at H; exact H) | (simp only [hjs34] at H ⊢; exact H)
   obtain ⟨ji35, hji35⟩ : ∃ j_ : Int, (mn (a2_1.size : Int) 20) = j_ := ⟨_, rfl⟩
   replace H : (if 0 ≤ (ji35) then (if (ji35) ≤ (a2_1.size : Int) then (if t377.size + (a2_1.extract 0 ((ji35) : Int).toNat).size ≤ 9223372036854775807 then (if (t375.size : Int) ≤ (t377.size : Int) then (if 0 ≤ (t375.size : Int) then (if (t377.extract 0 t375.size).toList = t375.toList then ((col_Compare.f kj7 t367 t368 t369 t370 t371 t372 t373 t374).bind fun t380 => (if ((decide (t380 < 0)) == (Op.bytesLess t375.toList t377.toList)) = true then (if ((t380 == 0) == (t375.toList == t377.toList)) = true then (if (true == (t380 == 0)) = true then (if t380 = 0 then (if ((t380 == 0) == (t367 == t371 && (t368 == t372 && (t369 == t373 && (t370.toList == t374.toList))))) = true then ((withylaw03_fixed.f kj7).bind fun t381 => (some t381)) else (none)) else (if ((decide (t380 < 0)) == (Op.bytesLess ((js34).toList) ((t377 ++ (a2_1.extract 0 ((ji35) : Int).toNat)).toList))) = true then (if ((t380 == 0) == (t367 == t371 && (t368 == t372 && (t369 == t373 && (t370.toList == t374.toList))))) = true then ((withylaw03_fixed.f kj7).bind fun t382 => (some t382)) else (none)) else (none))) else (none)) else (none)) else (none))) else (if (t377.size : Int) ≤ (t375.size : Int) then (if 0 ≤ (t377.size : Int) then ((col_Compare.f kj7 t367 t368 t369 t370 t371 t372 t373 t374).bind fun t383 => (if ((decide (t383 < 0)) == (Op.bytesLess t375.toList t377.toList)) = true then (if ((t383 == 0) == (t375.toList == t377.toList)) = true then (if (((t375.extract 0 t377.size).toList == t377.toList) == (t383 == 0)) = true then (if t383 = 0 then (if ((t383 == 0) == (t367 == t371 && (t368 == t372 && (t369 == t373 && (t370.toList == t374.toList))))) = true then ((withylaw03_fixed.f kj7).bind fun t384 => (some t384)) else (none)) else (if ((decide (t383 < 0)) == (Op.bytesLess ((js34).toList) ((t377 ++ (a2_1.extract 0 ((ji35) : Int).toNat)).toList))) = true then (if ((t383 == 0) == (t367 == t371 && (t368 == t372 && (t369 == t373 && (t370.toList == t374.toList))))) = true then ((withylaw03_fixed.f kj7).bind fun t385 => (some t385)) else (none)) else (none))) else (none)) else (none)) else (none))) else (none)) else ((col_Compare.f kj7 t367 t368 t369 t370 t371 t372 t373 t374).bind fun t386 => (if ((decide (t386 < 0)) == (Op.bytesLess t375.toList t377.toList)) = true then (if ((t386 == 0) == (t375.toList == t377.toList)) = true then (if (false == (t386 == 0)) = true then (if t386 = 0 then (if ((t386 == 0) == (t367 == t371 && (t368 == t372 && (t369 == t373 && (t370.toList == t374.toList))))) = true then ((withylaw03_fixed.f kj7).bind fun t387 => (some t387)) else (none)) else (if ((decide (t386 < 0)) == (Op.bytesLess ((js34).toList) ((t377 ++ (a2_1.extract 0 ((ji35) : Int).toNat)).toList))) = true then (if ((t386 == 0) == (t367 == t371 && (t368 == t372 && (t369 == t373 && (t370.toList == t374.toList))))) = true then ((withylaw03_fixed.f kj7).bind fun t388 => (some t388)) else (none)) else (none))) else (none)) else (none)) else (none))))) else (none)) else (if (t377.size : Int) ≤ (t375.size : Int) then (if 0 ≤ (t377.size : Int) then ((col_Compare.f kj7 t367 t368 t369 t370 t371 t372 t373 t374).bind fun t389 => (if ((decide (t389 < 0)) == (Op.bytesLess t375.toList t377.toList)) = true then (if ((t389 == 0) == (t375.toList == t377.toList)) = true then (if (((t375.extract 0 t377.size).toList == t377.toList) == (t389 == 0)) = true then (if t389 = 0 then (if ((t389 == 0) == (t367 == t371 && (t368 == t372 && (t369 == t373 && (t370.toList == t374.toList))))) = true then ((withylaw03_fixed.f kj7).bind fun t390 => (some t390)) else (none)) else (if ((decide (t389 < 0)) == (Op.bytesLess ((js34).toList) ((t377 ++ (a2_1.extract 0 ((ji35) : Int).toNat)).toList))) = true then (if ((t389 == 0) == (t367 == t371 && (t368 == t372 && (t369 == t373 && (t370.toList == t374.toList))))) = true then ((withylaw03_fixed.f kj7).bind fun t391 => (some t391)) else (none)) else (none))) else (none)) else (none)) else (none))) else (none)) else ((col_Compare.f kj7 t367 t368 t369 t370 t371 t372 t373 t374).bind fun t392 => (if ((decide (t392 < 0)) == (Op.bytesLess t375.toList t377.toList)) = true then (if ((t392 == 0) == (t375.toList == t377.toList)) = true then (if (false == (t392 == 0)) = true then (if t392 = 0 then (if ((t392 == 0) == (t367 == t371 && (t368 == t372 && (t369 == t373 && (t370.toList == t374.toList))))) = true then ((withylaw03_fixed.f kj7).bind fun t393 => (some t393)) else (none)) else (if ((decide (t392 < 0)) == (Op.bytesLess ((js34).toList) ((t377 ++ (a2_1.extract 0 ((ji35) : Int).toNat)).toList))) = true then (if ((t392 == 0) == (t367 == t371 && (t368 == t372 && (t369 == t373 && (t370.toList == t374.toList))))) = true then ((withylaw03_fixed.f kj7).bind fun t394 => (some t394)) else (none)) else (none))) else (none)) else (none)) else (none))))) else (none)) else (none)) else (none)) = some r := by first | (rw [hji35] at H; exact H) | (simp only [hji35] at H ⊢; exact H)
   have hji35_ : (if 20 < (a2_1.size : Int) then 20 else (a2_1.size : Int)) = ji35 := hji35
   by_cases c36 : 0 ≤ (ji35)
   rotate_left
   ·rw [if_neg c36] at H
    exact absurd H (by simp)
   rw [if_pos c36] at H
   have c36b0 := eq_true c36
   have c36b1 : decide (0 ≤ (ji35)) = true := decide_eq_true c36
   clear c36
   by_cases c37 : (ji35) ≤ (a2_1.size : Int)
   rotate_left
   ·rw [if_neg c37] at H
    exact absurd H (by simp)
   rw [if_pos c37] at H
   have c37b0 := eq_true c37
   have c37b1 : decide ((ji35) ≤ (a2_1.size : Int)) = true := decide_eq_true c37
   clear c37
   obtain ⟨js38, hjs38⟩ : ∃ j_ : ByteArray, (a2_1.extract 0 ((ji35) : Int).toNat) = j_ := ⟨_, rfl⟩
   replace H : (if t377.size + (js38).size ≤ 9223372036854775807 then (if (t375.size : Int) ≤ (t377.size : Int) then (if 0 ≤ (t375.size : Int) then (if (t377.extract 0 t375.size).toList = t375.toList then ((col_Compare.f kj7 t367 t368 t369 t370 t371 t372 t373 t374).bind fun t380 => (if ((decide (t380 < 0)) == (Op.bytesLess t375.toList t377.toList)) = true then (if ((t380 == 0) == (t375.toList == t377.toList)) = true then (if (true == (t380 == 0)) = true then (if t380 = 0 then (if ((t380 == 0) == (t367 == t371 && (t368 == t372 && (t369 == t373 && (t370.toList == t374.toList))))) = true then ((withylaw03_fixed.f kj7).bind fun t381 => (some t381)) else (none)) else (if ((decide (t380 < 0)) == (Op.bytesLess ((js34).toList) ((t377 ++ (js38)).toList))) = true then (if ((t380 == 0) == (t367 == t371 && (t368 == t372 && (t369 == t373 && (t370.toList == t374.toList))))) = true then ((withylaw03_fixed.f kj7).bind fun t382 => (some t382)) else (none)) else (none))) else (none)) else (none)) else (none))) else (if (t377.size : Int) ≤ (t375.size : Int) then (if 0 ≤ (t377.size : Int) then ((col_Compare.f kj7 t367 t368 t369 t370 t371 t372 t373 t374).bind fun t383 => (if ((decide (t383 < 0)) == (Op.bytesLess t375.toList t377.toList)) = true then (if ((t383 == 0) == (t375.toList == t377.toList)) = true then (if (((t375.extract 0 t377.size).toList == t377.toList) == (t383 == 0)) = true then (if t383 = 0 then (if ((t383 == 0) == (t367 == t371 && (t368 == t372 && (t369 == t373 && (t370.toList == t374.toList))))) = true then ((withylaw03_fixed.f kj7).bind fun t384 => (some t384)) else (none)) else (if ((decide (t383 < 0)) == (Op.bytesLess ((js34).toList) ((t377 ++ (js38)).toList))) = true then (if ((t383 == 0) == (t367 == t371 && (t368 == t372 && (t369 == t373 && (t370.toList == t374.toList))))) = true then ((withylaw03_fixed.f kj7).bind fun t385 => (some t385)) else (none)) else (none))) else (none)) else (none)) else (none))) else (none)) else ((col_Compare.f kj7 t367 t368 t369 t370 t371 t372 t373 t374).bind fun t386 => (if ((decide (t386 < 0)) == (Op.bytesLess t375.toList t377.toList)) = true then (if ((t386 == 0) == (t375.toList == t377.toList)) = true then (if (false == (t386 == 0)) = true then (if t386 = 0 then (if ((t386 == 0) == (t367 == t371 && (t368 == t372 && (t369 == t373 && (t370.toList == t374.toList))))) = true then ((withylaw03_fixed.f kj7).bind fun t387 => (some t387)) else (none)) else (if ((decide (t386 < 0)) == (Op.bytesLess ((js34).toList) ((t377 ++ (js38)).toList))) = true then (if ((t386 == 0) == (t367 == t371 && (t368 == t372 && (t369 == t373 && (t370.toList == t374.toList))))) = true then ((withylaw03_fixed.f kj7).bind fun t388 => (some t388)) else (none)) else (none))) else (none)) else (none)) else (none))))) else (none)) else (if (t377.size : Int) ≤ (t375.size : Int) then (if 0 ≤ (t377.size : Int) then ((col_Compare.f kj7 t367 t368 t369 t370 t371 t372 t373 t374).bind fun t389 => (if ((decide (t389 < 0)) == (Op.bytesLess t375.toList t377.toList)) = true then (if ((t389 == 0) == (t375.toList == t377.toList)) = true then (if (((t375.extract 0 t377.size).toList == t377.toList) == (t389 == 0)) = true then (if t389 = 0 then (if ((t389 == 0) == (t367 == t371 && (t368 == t372 && (t369 == t373 && (t370.toList == t374.toList))))) = true then ((withylaw03_fixed.f kj7).bind fun t390 => (some t390)) else (none)) else (if ((decide (t389 < 0)) == (Op.bytesLess ((js34).toList) ((t377 ++ (js38)).toList))) = true then (if ((t389 == 0) == (t367 == t371 && (t368 == t372 && (t369 == t373 && (t370.toList == t374.toList))))) = true then ((withylaw03_fixed.f kj7).bind fun t391 => (some t391)) else (none)) else (none))) else (none)) else (none)) else (none))) else (none)) else ((col_Compare.f kj7 t367 t368 t369 t370 t371 t372 t373 t374).bind fun t392 => (if ((decide (t392 < 0)) == (Op.bytesLess t375.toList t377.toList)) = true then (if ((t392 == 0) == (t375.toList == t377.toList)) = true then (if (false == (t392 == 0)) = true then (if t392 = 0 then (if ((t392 == 0) == (t367 == t371 && (t368 == t372 && (t369 == t373 && (t370.toList == t374.toList))))) = true then ((withylaw03_fixed.f kj7).bind fun t393 => (some t393)) else (none)) else (if ((decide (t392 < 0)) == (Op.bytesLess ((js34).toList) ((t377 ++ (js38)).toList))) = true then (if ((t392 == 0) == (t367 == t371 && (t368 == t372 && (t369 == t373 && (t370.toList == t374.toList))))) = true then ((withylaw03_fixed.f kj7).bind fun t394 => (some t394)) else (none)) else (none))) else (none)) else (none)) else (none))))) else (none)) = some r := by first | (rw [hjs38] at H; exact H) | (simp only [hjs38] at H ⊢; exact H)
   by_cases c39 : t377.size + (js38).size ≤ 9223372036854775807
   rotate_left
   ·rw [if_neg c39] at H
    exact absurd H (by simp)
   rw [if_pos c39] at H
   have c39b0 := eq_true c39
   have c39b1 : decide (t377.size + (js38).size ≤ 9223372036854775807) = true := decide_eq_true c39
   try have c39b2 : (9223372036854775807 < t377.size + (js38).size) = False := eq_false (Nat.not_lt.2 c39)
   obtain ⟨js40, hjs40⟩ : ∃ j_ : ByteArray, (t377 ++ (js38)) = j_ := ⟨_, rfl⟩
   replace H : (if (t375.size : Int) ≤ (t377.size : Int) then (if 0 ≤ (t375.size : Int) then (if (t377.extract 0 t375.size).toList = t375.toList then ((col_Compare.f kj7 t367 t368 t369 t370 t371 t372 t373 t374).bind fun t380 => (if ((decide (t380 < 0)) == (Op.bytesLess t375.toList t377.toList)) = true then (if ((t380 == 0) == (t375.toList == t377.toList)) = true then (if (true == (t380 == 0)) = true then (if t380 = 0 then (if ((t380 == 0) == (t367 == t371 && (t368 == t372 && (t369 == t373 && (t370.toList == t374.toList))))) = true then ((withylaw03_fixed.f kj7).bind fun t381 => (some t381)) else (none)) else (if ((decide (t380 < 0)) == (Op.bytesLess ((js34).toList) ((js40).toList))) = true then (if ((t380 == 0) == (t367 == t371 && (t368 == t372 && (t369 == t373 && (t370.toList == t374.toList))))) = true then ((withylaw03_fixed.f kj7).bind fun t382 => (some t382)) else (none)) else (none))) else (none)) else (none)) else (none))) else (if (t377.size : Int) ≤ (t375.size : Int) then (if 0 ≤ (t377.size : Int) then ((col_Compare.f kj7 t367 t368 t369 t370 t371 t372 t373 t374).bind fun t383 => (if ((decide (t383 < 0)) == (Op.bytesLess t375.toList t377.toList)) = true then (if ((t383 == 0) == (t375.toList == t377.toList)) = true then (if (((t375.extract 0 t377.size).toList == t377.toList) == (t383 == 0)) = true then (if t383 = 0 then (if ((t383 == 0) == (t367 == t371 && (t368 == t372 && (t369 == t373 && (t370.toList == t374.toList))))) = true then ((withylaw03_fixed.f kj7).bind fun t384 => (some t384)) else (none)) else (if ((decide (t383 < 0)) == (Op.bytesLess ((js34).toList) ((js40).toList))) = true then (if ((t383 == 0) == (t367 == t371 && (t368 == t372 && (t369 == t373 && (t370.toList == t374.toList))))) = true then ((withylaw03_fixed.f kj7).bind fun t385 => (some t385)) else (none)) else (none))) else (none)) else (none)) else (none))) else (none)) else ((col_Compare.f kj7 t367 t368 t369 t370 t371 t372 t373 t374).bind fun t386 => (if ((decide (t386 < 0)) == (Op.bytesLess t375.toList t377.toList)) = true then (if ((t386 == 0) == (t375.toList == t377.toList)) = true then (if (false == (t386 == 0)) = true then (if t386 = 0 then (if ((t386 == 0) == (t367 == t371 && (t368 == t372 && (t369 == t373 && (t370.toList == t374.toList))))) = true then ((withylaw03_fixed.f kj7).bind fun t387 => (some t387)) else (none)) else (if ((decide (t386 < 0)) == (Op.bytesLess ((js34).toList) ((js40).toList))) = true then (if ((t386 == 0) == (t367 == t371 && (t368 == t372 && (t369 == t373 && (t370.toList == t374.toList))))) = true then ((withylaw03_fixed.f kj7).bind fun t388 => (some t388)) else (none)) else (none))) else (none)) else (none)) else (none))))) else (none)) else (if (t377.size : Int) ≤ (t375.size : Int) then (if 0 ≤ (t377.size : Int) then ((col_Compare.f kj7 t367 t368 t369 t370 t371 t372 t373 t374).bind fun t389 => (if ((decide (t389 < 0)) == (Op.bytesLess t375.toList t377.toList)) = true then (if ((t389 == 0) == (t375.toList == t377.toList)) = true then (if (((t375.extract 0 t377.size).toList == t377.toList) == (t389 == 0)) = true then (if t389 = 0 then (if ((t389 == 0) == (t367 == t371 && (t368 == t372 && (t369 == t373 && (t370.toList == t374.toList))))) = true then ((withylaw03_fixed.f kj7).bind fun t390 => (some t390)) else (none)) else (if ((decide (t389 < 0)) == (Op.bytesLess ((js34).toList) ((js40).toList))) = true then (if ((t389 == 0) == (t367 == t371 && (t368 == t372 && (t369 == t373 && (t370.toList == t374.toList))))) = true then ((withylaw03_fixed.f kj7).bind fun t391 => (some t391)) else (none)) else (none))) else (none)) else (none)) else (none))) else (none)) else ((col_Compare.f kj7 t367 t368 t369 t370 t371 t372 t373 t374).bind fun t392 => (if ((decide (t392 < 0)) == (Op.bytesLess t375.toList t377.toList)) = true then (if ((t392 == 0) == (t375.toList == t377.toList)) = true then (if (false == (t392 == 0)) = true then (if t392 = 0 then (if ((t392 == 0) == (t367 == t371 && (t368 == t372 && (t369 == t373 && (t370.toList == t374.toList))))) = true then ((withylaw03_fixed.f kj7).bind fun t393 => (some t393)) else (none)) else (if ((decide (t392 < 0)) == (Op.bytesLess ((js34).toList) ((js40).toList))) = true then (if ((t392 == 0) == (t367 == t371 && (t368 == t372 && (t369 == t373 && (t370.toList == t374.toList))))) = true then ((withylaw03_fixed.f kj7).bind fun t394 => (some t394)) else (none)) else (none))) else (none)) else (none)) else (none))))) = some r := by first | (rw [hjs40] at H; exact H) | (simp only [hjs40] at H ⊢; exact H)
   by_cases c41 : (t375.size : Int) ≤ (t377.size : Int)
   rotate_left
   ·rw [if_neg c41] at H
    have c41b0 : decide ((t375.size : Int) ≤ (t377.size : Int)) = false := decide_eq_false c41
    have c41b1 : decide (t375.size ≤ t377.size) = false := decide_eq_false (fun h => c41 (Int.ofNat_le.mpr h))
    clear c41
    by_cases c140 : (t377.size : Int) ≤ (t375.size : Int)
    rotate_left
    ·rw [if_neg c140] at H
     have c140b0 : decide ((t377.size : Int) ≤ (t375.size : Int)) = false := decide_eq_false c140
     have c140b1 : decide (t377.size ≤ t375.size) = false := decide_eq_false (fun h => c140 (Int.ofNat_le.mpr h))
     clear c140
     replace H := bM H
     obtain ⟨t392, A1740, H⟩ := H
     replace H : (if ((decide (t392 < 0)) == (Op.bytesLess t375.toList t377.toList)) = true then (if ((t392 == 0) == (t375.toList == t377.toList)) = true then (if (false == (t392 == 0)) = true then (if t392 = 0 then (if ((t392 == 0) == (t367 == t371 && (t368 == t372 && (t369 == t373 && (t370.toList == t374.toList))))) = true then ((withylaw03_fixed.f kj7).bind fun t393 => (some t393)) else (none)) else (if ((decide (t392 < 0)) == (Op.bytesLess ((js34).toList) ((js40).toList))) = true then (if ((t392 == 0) == (t367 == t371 && (t368 == t372 && (t369 == t373 && (t370.toList == t374.toList))))) = true then ((withylaw03_fixed.f kj7).bind fun t394 => (some t394)) else (none)) else (none))) else (none)) else (none)) else (none)) = some r := H
     have A174 := Aside0.mk A1740
     clear A1740
     by_cases c175 : ((decide (t392 < 0)) == (Op.bytesLess t375.toList t377.toList)) = true
     rotate_left
     ·rw [if_neg c175] at H
      exact absurd H (by simp)
     rw [if_pos c175] at H
     have c175b0 : ((decide (t392 < 0)) == (Op.bytesLess t375.toList t377.toList)) = true := c175
     (try (have c175b1 : decide ((decide (t392 < 0)) = (Op.bytesLess t375.toList t377.toList)) = true := by simpa using c175))
     (try (have c175b2 : ((decide (t392 < 0)) == (Op.bytesLess t375.toList t377.toList)) = true := by simpa using c175))
     clear c175
     by_cases c176 : ((t392 == 0) == (t375.toList == t377.toList)) = true
     rotate_left
     ·rw [if_neg c176] at H
      exact absurd H (by simp)
     rw [if_pos c176] at H
     have c176b0 : ((t392 == 0) == (t375.toList == t377.toList)) = true := c176
     (try (have c176b1 : decide ((t392 == 0) = (t375.toList == t377.toList)) = true := by simpa using c176))
     (try (have c176b2 : ((t392 == 0) == (t375.toList == t377.toList)) = true := by simpa using c176))
     clear c176
     by_cases c177 : (false == (t392 == 0)) = true
     rotate_left
     ·rw [if_neg c177] at H
      exact absurd H (by simp)
     rw [if_pos c177] at H
     have c177b0 : (false == (t392 == 0)) = true := c177
     (try (have c177b1 : (t392 == 0) = false := by simpa using c177))
     (try (have c177b2 : decide (false = (t392 == 0)) = true := by simpa using c177))
     (try (have c177b3 : (false == (t392 == 0)) = true := by simpa using c177))
     clear c177
     by_cases c178 : t392 = 0
     ·rw [if_pos c178] at H
      have c178b0 : (t392 == 0) = true := beq_iff_eq.mpr c178
      (try (have c176u : decide (t375.toList = t377.toList) = true := by have h_ := c176b0; rw [c178b0] at h_; simpa using h_))
      (try (have c176t : (t375.toList == t377.toList) = true := by have h_ := c176b0; rw [c178b0] at h_; simpa using h_))
      (try (have c176u : decide (t375.toList = t377.toList) = false := by have h_ := c176b0; rw [c178b0] at h_; simpa using h_))
      (try (have c176t : (t375.toList == t377.toList) = false := by have h_ := c176b0; rw [c178b0] at h_; simpa using h_))
      exact absurd ((eq_of_beq c177b0).trans c178b0) (by decide)
     rw [if_neg c178] at H
     have c178b0 : (t392 == 0) = false := beq_eq_false_iff_ne.mpr c178
     (try (have c176u : decide (t375.toList = t377.toList) = true := by have h_ := c176b0; rw [c178b0] at h_; simpa using h_))
     (try (have c176t : (t375.toList == t377.toList) = true := by have h_ := c176b0; rw [c178b0] at h_; simpa using h_))
     (try (have c176u : decide (t375.toList = t377.toList) = false := by have h_ := c176b0; rw [c178b0] at h_; simpa using h_))
     (try (have c176t : (t375.toList == t377.toList) = false := by have h_ := c176b0; rw [c178b0] at h_; simpa using h_))
     have c176d0 : (t375.toList == t377.toList) = false := by have h_ := eq_of_beq c176b0; rw [c178b0] at h_; exact h_.symm
     (try (have c176d1 : (t375.toList = t377.toList) = False := eq_false (by simpa using c176d0)))
     have c178b1 : (t392 != 0) = true := bne_iff_ne.mpr c178
     by_cases c191 : ((decide (t392 < 0)) == (Op.bytesLess ((js34).toList) ((js40).toList))) = true
     rotate_left
     ·rw [if_neg c191] at H
      exact absurd H (by simp)
     rw [if_pos c191] at H
     have c191b0 : ((decide (t392 < 0)) == (Op.bytesLess ((js34).toList) ((js40).toList))) = true := c191
     (try (have c191b1 : decide ((decide (t392 < 0)) = (Op.bytesLess ((js34).toList) ((js40).toList))) = true := by simpa using c191))
     (try (have c191b2 : ((decide (t392 < 0)) == (Op.bytesLess ((js34).toList) ((js40).toList))) = true := by simpa using c191))
     clear c191
     by_cases c192 : ((t392 == 0) == (t367 == t371 && (t368 == t372 && (t369 == t373 && (t370.toList == t374.toList))))) = true
     rotate_left
     ·rw [if_neg c192] at H
      exact absurd H (by simp)
     rw [if_pos c192] at H
     have c192b0 : ((t392 == 0) == (t367 == t371 && (t368 == t372 && (t369 == t373 && (t370.toList == t374.toList))))) = true := c192
     have c192d0 : (t367 == t371 && (t368 == t372 && (t369 == t373 && (t370.toList == t374.toList)))) = false := by have h_ := eq_of_beq c192b0; rw [c178b0] at h_; exact h_.symm
     (try (have c192d1 : (t367 = t371 ∧ t368 = t372 ∧ t369 = t373 ∧ t370.toList = t374.toList) = False := eq_false (by simpa using c192d0)))
     (try (have c192d2 : (¬t367 = t371 ∨ ¬t368 = t372 ∨ ¬t369 = t373 ∨ ¬t370.toList = t374.toList) = True := eq_true (by (have h_ : ¬ (t367 = t371 ∧ t368 = t372 ∧ t369 = t373 ∧ t370.toList = t374.toList) := by simpa using c192d0); simpa [Classical.not_and_iff_not_or_not] using h_)))
     (try (have c192b1 : decide ((t392 == 0) = (t367 == t371 && (t368 == t372 && (t369 == t373 && (t370.toList == t374.toList))))) = true := by simpa using c192))
     (try (have c192b2 : ((t392 == 0) == (t367 == t371 && (t368 == t372 && (t369 == t373 && (t370.toList == t374.toList))))) = true := by simpa using c192))
     clear c192
     replace H := bM H
     obtain ⟨t394, A1930, H⟩ := H
     replace H : (some t394) = some r := H
     have A193 := Aside0.mk A1930
     clear A1930
     obtain rfl := Option.some.inj H
     have hnb194 := NB366_364.out
     have hnc194 := NB364_366.out
     have hnb195 := NB366_365.out
     have hnc195 := NB365_366.out
     obtain ⟨hcz196_0, hcz196_1⟩ := zc2 BK366
     obtain ⟨hfz196_0, hfz196_1⟩ := zf2 BK366
     have hnb197 := NB364_365.out
     have hnc197 := NB365_364.out
     obtain ⟨hcz198_0, hcz198_1, hcz198_2, hcz198_3⟩ := zc4 BK364
     obtain ⟨hfz198_0, hfz198_1, hfz198_2, hfz198_3⟩ := zf4 BK364
     obtain ⟨hcz199_0, hcz199_1, hcz199_2, hcz199_3⟩ := zc4 BK365
     obtain ⟨hfz199_0, hfz199_1, hfz199_2, hfz199_3⟩ := zf4 BK365
     go_wp2_with (first | (go_at_call 17; (with_reducible refine (col_Compare.calls kj7 t367 t368 t369 t370 t371 t372 t373 t374 t392 _ A174.out).mono ?_); rintro e w200 ⟨rfl, hb⟩; replace BK364 := bb BK364 hb; replace BK365 := bb BK365 hb; replace BK366 := bb BK366 hb; replace HB := as_ (below_step bA hb); (try clear hb); (try clear hb2); (try clear hk); (try clear hi); obtain ⟨hcz201_0, hcz201_1, hcz201_2, hcz201_3⟩ := zc4 BK364; obtain ⟨hfz201_0, hfz201_1, hfz201_2, hfz201_3⟩ := zf4 BK364; obtain ⟨hcz202_0, hcz202_1, hcz202_2, hcz202_3⟩ := zc4 BK365; obtain ⟨hfz202_0, hfz202_1, hfz202_2, hfz202_3⟩ := zf4 BK365) | (go_at_call 19; (with_reducible refine (withylaw03_fixed.calls kj7  t394 _ A193.out).mono ?_); rintro e w203 ⟨rfl, hb⟩; replace BK364 := bb BK364 hb; replace BK365 := bb BK365 hb; replace BK366 := bb BK366 hb; replace HB := as_ (below_step bA hb); (try clear hb); (try clear hb2); (try clear hk); (try clear hi)))
     repeat (go_quiet (first | (go_at_call 17; (with_reducible refine (col_Compare.calls kj7 t367 t368 t369 t370 t371 t372 t373 t374 t392 _ A174.out).mono ?_); rintro e w200 ⟨rfl, hb⟩; replace BK364 := bb BK364 hb; replace BK365 := bb BK365 hb; replace BK366 := bb BK366 hb; replace HB := as_ (below_step bA hb); (try clear hb); (try clear hb2); (try clear hk); (try clear hi); obtain ⟨hcz201_0, hcz201_1, hcz201_2, hcz201_3⟩ := zc4 BK364; obtain ⟨hfz201_0, hfz201_1, hfz201_2, hfz201_3⟩ := zf4 BK364; obtain ⟨hcz202_0, hcz202_1, hcz202_2, hcz202_3⟩ := zc4 BK365; obtain ⟨hfz202_0, hfz202_1, hfz202_2, hfz202_3⟩ := zf4 BK365) | (go_at_call 19; (with_reducible refine (withylaw03_fixed.calls kj7  t394 _ A193.out).mono ?_); rintro e w203 ⟨rfl, hb⟩; replace BK364 := bb BK364 hb; replace BK365 := bb BK365 hb; replace BK366 := bb BK366 hb; replace HB := as_ (below_step bA hb); (try clear hb); (try clear hb2); (try clear hk); (try clear hi))); try go_wp2_with (first | (go_at_call 17; (with_reducible refine (col_Compare.calls kj7 t367 t368 t369 t370 t371 t372 t373 t374 t392 _ A174.out).mono ?_); rintro e w200 ⟨rfl, hb⟩; replace BK364 := bb BK364 hb; replace BK365 := bb BK365 hb; replace BK366 := bb BK366 hb; replace HB := as_ (below_step bA hb); (try clear hb); (try clear hb2); (try clear hk); (try clear hi); obtain ⟨hcz201_0, hcz201_1, hcz201_2, hcz201_3⟩ := zc4 BK364; obtain ⟨hfz201_0, hfz201_1, hfz201_2, hfz201_3⟩ := zf4 BK364; obtain ⟨hcz202_0, hcz202_1, hcz202_2, hcz202_3⟩ := zc4 BK365; obtain ⟨hfz202_0, hfz202_1, hfz202_2, hfz202_3⟩ := zf4 BK365) | (go_at_call 19; (with_reducible refine (withylaw03_fixed.calls kj7  t394 _ A193.out).mono ?_); rintro e w203 ⟨rfl, hb⟩; replace BK364 := bb BK364 hb; replace BK365 := bb BK365 hb; replace BK366 := bb BK366 hb; replace HB := as_ (below_step bA hb); (try clear hb); (try clear hb2); (try clear hk); (try clear hi))))
     go_ret
     exact ⟨by first | rfl | (simp [errW_none, errW_some] <;> rfl) | (simp only [← hji29, ← hjs32, ← hjs34, ← hji35, ← hjs38, ← hjs40]; first | rfl | (simp [errW_none, errW_some] <;> rfl)) | (simp [*, errW_none, errW_some] <;> rfl), by repeat (first | (with_reducible first | exact HB.out | apply below_alloc | apply pw_below_drewN | apply below_drew1 | refine below_set ?_ GE364.out | refine below_set ?_ GE365.out | refine below_set ?_ GE366.out) | exact HB.out)⟩
    rw [if_pos c140] at H
    have c140b0 : decide ((t377.size : Int) ≤ (t375.size : Int)) = true := decide_eq_true c140
    have c140b1 : decide (t377.size ≤ t375.size) = true := decide_eq_true (Int.ofNat_le.mp c140)
    clear c140
    by_cases c141 : 0 ≤ (t377.size : Int)
    rotate_left
    ·rw [if_neg c141] at H
     exact absurd H (by simp)
    rw [if_pos c141] at H
    have c141b0 := eq_true c141
    have c141b1 : decide (0 ≤ (t377.size : Int)) = true := decide_eq_true c141
    clear c141
    have c142b0 := eq_true (of_decide_eq_true aM : (t377.size : Int) ≤ (t375.size : Int))
    obtain ⟨js143, hjs143⟩ : ∃ j_ : ByteArray, (t375.extract 0 t377.size) = j_ := ⟨_, rfl⟩
    replace H : ((col_Compare.f kj7 t367 t368 t369 t370 t371 t372 t373 t374).bind fun t389 => (if ((decide (t389 < 0)) == (Op.bytesLess t375.toList t377.toList)) = true then (if ((t389 == 0) == (t375.toList == t377.toList)) = true then (if (((js143).toList == t377.toList) == (t389 == 0)) = true then (if t389 = 0 then (if ((t389 == 0) == (t367 == t371 && (t368 == t372 && (t369 == t373 && (t370.toList == t374.toList))))) = true then ((withylaw03_fixed.f kj7).bind fun t390 => (some t390)) else (none)) else (if ((decide (t389 < 0)) == (Op.bytesLess ((js34).toList) ((js40).toList))) = true then (if ((t389 == 0) == (t367 == t371 && (t368 == t372 && (t369 == t373 && (t370.toList == t374.toList))))) = true then ((withylaw03_fixed.f kj7).bind fun t391 => (some t391)) else (none)) else (none))) else (none)) else (none)) else (none))) = some r := by first | (rw [hjs143] at H; exact H) | (simp only [hjs143] at H ⊢; exact H)
    replace H := bM H
    obtain ⟨t389, A1440, H⟩ := H
    replace H : (if ((decide (t389 < 0)) == (Op.bytesLess t375.toList t377.toList)) = true then (if ((t389 == 0) == (t375.toList == t377.toList)) = true then (if (((js143).toList == t377.toList) == (t389 == 0)) = true then (if t389 = 0 then (if ((t389 == 0) == (t367 == t371 && (t368 == t372 && (t369 == t373 && (t370.toList == t374.toList))))) = true then ((withylaw03_fixed.f kj7).bind fun t390 => (some t390)) else (none)) else (if ((decide (t389 < 0)) == (Op.bytesLess ((js34).toList) ((js40).toList))) = true then (if ((t389 == 0) == (t367 == t371 && (t368 == t372 && (t369 == t373 && (t370.toList == t374.toList))))) = true then ((withylaw03_fixed.f kj7).bind fun t391 => (some t391)) else (none)) else (none))) else (none)) else (none)) else (none)) = some r := H
    have A144 := Aside0.mk A1440
    clear A1440
    by_cases c145 : ((decide (t389 < 0)) == (Op.bytesLess t375.toList t377.toList)) = true
    rotate_left
    ·rw [if_neg c145] at H
     exact absurd H (by simp)
    rw [if_pos c145] at H
    have c145b0 : ((decide (t389 < 0)) == (Op.bytesLess t375.toList t377.toList)) = true := c145
    (try (have c145b1 : decide ((decide (t389 < 0)) = (Op.bytesLess t375.toList t377.toList)) = true := by simpa using c145))
    (try (have c145b2 : ((decide (t389 < 0)) == (Op.bytesLess t375.toList t377.toList)) = true := by simpa using c145))
    clear c145
    by_cases c146 : ((t389 == 0) == (t375.toList == t377.toList)) = true
    rotate_left
    ·rw [if_neg c146] at H
     exact absurd H (by simp)
    rw [if_pos c146] at H
    have c146b0 : ((t389 == 0) == (t375.toList == t377.toList)) = true := c146
    (try (have c146b1 : decide ((t389 == 0) = (t375.toList == t377.toList)) = true := by simpa using c146))
    (try (have c146b2 : ((t389 == 0) == (t375.toList == t377.toList)) = true := by simpa using c146))
    clear c146
    by_cases c147 : (((js143).toList == t377.toList) == (t389 == 0)) = true
    rotate_left
    ·rw [if_neg c147] at H
     exact absurd H (by simp)
    rw [if_pos c147] at H
    have c147b0 : (((js143).toList == t377.toList) == (t389 == 0)) = true := c147
    (try (have c147b1 : decide (((js143).toList == t377.toList) = (t389 == 0)) = true := by simpa using c147))
    (try (have c147b2 : (((js143).toList == t377.toList) == (t389 == 0)) = true := by simpa using c147))
    clear c147
    by_cases c148 : t389 = 0
    ·rw [if_pos c148] at H
     have c148b0 : (t389 == 0) = true := beq_iff_eq.mpr c148
     (try (have c146u : decide (t375.toList = t377.toList) = true := by have h_ := c146b0; rw [c148b0] at h_; simpa using h_))
     (try (have c146t : (t375.toList == t377.toList) = true := by have h_ := c146b0; rw [c148b0] at h_; simpa using h_))
     (try (have c146u : decide (t375.toList = t377.toList) = false := by have h_ := c146b0; rw [c148b0] at h_; simpa using h_))
     (try (have c146t : (t375.toList == t377.toList) = false := by have h_ := c146b0; rw [c148b0] at h_; simpa using h_))
     have c146d0 : (t375.toList == t377.toList) = true := by have h_ := eq_of_beq c146b0; rw [c148b0] at h_; exact h_.symm
     (try (have c146d1 : (t375.toList = t377.toList) = True := eq_true (by simpa using c146d0)))
     have c147d0 : ((js143).toList == t377.toList) = true := by have h_ := eq_of_beq c147b0; rw [c148b0] at h_; exact h_
     (try (have c147d1 : (js143.toList = t377.toList) = True := eq_true (by simpa using c147d0)))
     have c148b1 : (t389 != 0) = false := bne_eq_false_iff_eq.mpr c148
     clear c148
     by_cases c149 : ((t389 == 0) == (t367 == t371 && (t368 == t372 && (t369 == t373 && (t370.toList == t374.toList))))) = true
     rotate_left
     ·rw [if_neg c149] at H
      exact absurd H (by simp)
     rw [if_pos c149] at H
     have c149b0 : ((t389 == 0) == (t367 == t371 && (t368 == t372 && (t369 == t373 && (t370.toList == t374.toList))))) = true := c149
     have c149d0 : (t367 == t371 && (t368 == t372 && (t369 == t373 && (t370.toList == t374.toList)))) = true := by have h_ := eq_of_beq c149b0; rw [c148b0] at h_; exact h_.symm
     (try (have c149d1 : (t367 = t371 ∧ t368 = t372 ∧ t369 = t373 ∧ t370.toList = t374.toList) = True := eq_true (by simpa using c149d0)))
     (try (have c149d2 : (¬t367 = t371 ∨ ¬t368 = t372 ∨ ¬t369 = t373 ∨ ¬t370.toList = t374.toList) = False := eq_false (by simp [show t367 = t371 ∧ t368 = t372 ∧ t369 = t373 ∧ t370.toList = t374.toList from by simpa using c149d0])))
     (try (have c149b1 : decide ((t389 == 0) = (t367 == t371 && (t368 == t372 && (t369 == t373 && (t370.toList == t374.toList))))) = true := by simpa using c149))
     (try (have c149b2 : ((t389 == 0) == (t367 == t371 && (t368 == t372 && (t369 == t373 && (t370.toList == t374.toList))))) = true := by simpa using c149))
     clear c149
     replace H := bM H
     obtain ⟨t390, A1500, H⟩ := H
     replace H : (some t390) = some r := H
     have A150 := Aside0.mk A1500
     clear A1500
     obtain rfl := Option.some.inj H
     have hnb151 := NB366_364.out
     have hnc151 := NB364_366.out
     have hnb152 := NB366_365.out
     have hnc152 := NB365_366.out
     obtain ⟨hcz153_0, hcz153_1⟩ := zc2 BK366
     obtain ⟨hfz153_0, hfz153_1⟩ := zf2 BK366
     have hnb154 := NB364_365.out
     have hnc154 := NB365_364.out
     obtain ⟨hcz155_0, hcz155_1, hcz155_2, hcz155_3⟩ := zc4 BK364
     obtain ⟨hfz155_0, hfz155_1, hfz155_2, hfz155_3⟩ := zf4 BK364
     obtain ⟨hcz156_0, hcz156_1, hcz156_2, hcz156_3⟩ := zc4 BK365
     obtain ⟨hfz156_0, hfz156_1, hfz156_2, hfz156_3⟩ := zf4 BK365
     go_wp2_with (first | (go_at_call 17; (with_reducible refine (col_Compare.calls kj7 t367 t368 t369 t370 t371 t372 t373 t374 t389 _ A144.out).mono ?_); rintro e w157 ⟨rfl, hb⟩; replace BK364 := bb BK364 hb; replace BK365 := bb BK365 hb; replace BK366 := bb BK366 hb; replace HB := as_ (below_step bA hb); (try clear hb); (try clear hb2); (try clear hk); (try clear hi); obtain ⟨hcz158_0, hcz158_1, hcz158_2, hcz158_3⟩ := zc4 BK364; obtain ⟨hfz158_0, hfz158_1, hfz158_2, hfz158_3⟩ := zf4 BK364; obtain ⟨hcz159_0, hcz159_1, hcz159_2, hcz159_3⟩ := zc4 BK365; obtain ⟨hfz159_0, hfz159_1, hfz159_2, hfz159_3⟩ := zf4 BK365) | (go_at_call 19; (with_reducible refine (withylaw03_fixed.calls kj7  t390 _ A150.out).mono ?_); rintro e w160 ⟨rfl, hb⟩; replace BK364 := bb BK364 hb; replace BK365 := bb BK365 hb; replace BK366 := bb BK366 hb; replace HB := as_ (below_step bA hb); (try clear hb); (try clear hb2); (try clear hk); (try clear hi)))
     repeat (go_quiet (first | (go_at_call 17; (with_reducible refine (col_Compare.calls kj7 t367 t368 t369 t370 t371 t372 t373 t374 t389 _ A144.out).mono ?_); rintro e w157 ⟨rfl, hb⟩; replace BK364 := bb BK364 hb; replace BK365 := bb BK365 hb; replace BK366 := bb BK366 hb; replace HB := as_ (below_step bA hb); (try clear hb); (try clear hb2); (try clear hk); (try clear hi); obtain ⟨hcz158_0, hcz158_1, hcz158_2, hcz158_3⟩ := zc4 BK364; obtain ⟨hfz158_0, hfz158_1, hfz158_2, hfz158_3⟩ := zf4 BK364; obtain ⟨hcz159_0, hcz159_1, hcz159_2, hcz159_3⟩ := zc4 BK365; obtain ⟨hfz159_0, hfz159_1, hfz159_2, hfz159_3⟩ := zf4 BK365) | (go_at_call 19; (with_reducible refine (withylaw03_fixed.calls kj7  t390 _ A150.out).mono ?_); rintro e w160 ⟨rfl, hb⟩; replace BK364 := bb BK364 hb; replace BK365 := bb BK365 hb; replace BK366 := bb BK366 hb; replace HB := as_ (below_step bA hb); (try clear hb); (try clear hb2); (try clear hk); (try clear hi))); try go_wp2_with (first | (go_at_call 17; (with_reducible refine (col_Compare.calls kj7 t367 t368 t369 t370 t371 t372 t373 t374 t389 _ A144.out).mono ?_); rintro e w157 ⟨rfl, hb⟩; replace BK364 := bb BK364 hb; replace BK365 := bb BK365 hb; replace BK366 := bb BK366 hb; replace HB := as_ (below_step bA hb); (try clear hb); (try clear hb2); (try clear hk); (try clear hi); obtain ⟨hcz158_0, hcz158_1, hcz158_2, hcz158_3⟩ := zc4 BK364; obtain ⟨hfz158_0, hfz158_1, hfz158_2, hfz158_3⟩ := zf4 BK364; obtain ⟨hcz159_0, hcz159_1, hcz159_2, hcz159_3⟩ := zc4 BK365; obtain ⟨hfz159_0, hfz159_1, hfz159_2, hfz159_3⟩ := zf4 BK365) | (go_at_call 19; (with_reducible refine (withylaw03_fixed.calls kj7  t390 _ A150.out).mono ?_); rintro e w160 ⟨rfl, hb⟩; replace BK364 := bb BK364 hb; replace BK365 := bb BK365 hb; replace BK366 := bb BK366 hb; replace HB := as_ (below_step bA hb); (try clear hb); (try clear hb2); (try clear hk); (try clear hi))))
     go_ret
     exact ⟨by first | rfl | (simp [errW_none, errW_some] <;> rfl) | (simp only [← hji29, ← hjs32, ← hjs34, ← hji35, ← hjs38, ← hjs40, ← hjs143]; first | rfl | (simp [errW_none, errW_some] <;> rfl)) | (simp [*, errW_none, errW_some] <;> rfl), by repeat (first | (with_reducible first | exact HB.out | apply below_alloc | apply pw_below_drewN | apply below_drew1 | refine below_set ?_ GE364.out | refine below_set ?_ GE365.out | refine below_set ?_ GE366.out) | exact HB.out)⟩
    rw [if_neg c148] at H
    have c148b0 : (t389 == 0) = false := beq_eq_false_iff_ne.mpr c148
    (try (have c146u : decide (t375.toList = t377.toList) = true := by have h_ := c146b0; rw [c148b0] at h_; simpa using h_))
    (try (have c146t : (t375.toList == t377.toList) = true := by have h_ := c146b0; rw [c148b0] at h_; simpa using h_))
    (try (have c146u : decide (t375.toList = t377.toList) = false := by have h_ := c146b0; rw [c148b0] at h_; simpa using h_))
    (try (have c146t : (t375.toList == t377.toList) = false := by have h_ := c146b0; rw [c148b0] at h_; simpa using h_))
    (try (have c149u : decide (t367 == t371 && (t368 == t372 && (t369 == t373 && (t370.toList = t374.toList)))) = true := by have h_ := c149b0; rw [c148b0] at h_; simpa using h_))
    (try (have c149t : (t367 == t371 && (t368 == t372 && (t369 == t373 && (t370.toList == t374.toList)))) = true := by have h_ := c149b0; rw [c148b0] at h_; simpa using h_))
    (try (have c149u : decide (t367 == t371 && (t368 == t372 && (t369 == t373 && (t370.toList = t374.toList)))) = false := by have h_ := c149b0; rw [c148b0] at h_; simpa using h_))
    (try (have c149t : (t367 == t371 && (t368 == t372 && (t369 == t373 && (t370.toList == t374.toList)))) = false := by have h_ := c149b0; rw [c148b0] at h_; simpa using h_))
    have c146d0 : (t375.toList == t377.toList) = false := by have h_ := eq_of_beq c146b0; rw [c148b0] at h_; exact h_.symm
    (try (have c146d1 : (t375.toList = t377.toList) = False := eq_false (by simpa using c146d0)))
    have c147d0 : ((js143).toList == t377.toList) = false := by have h_ := eq_of_beq c147b0; rw [c148b0] at h_; exact h_
    (try (have c147d1 : (js143.toList = t377.toList) = False := eq_false (by simpa using c147d0)))
    have c148b1 : (t389 != 0) = true := bne_iff_ne.mpr c148
    by_cases c161 : ((decide (t389 < 0)) == (Op.bytesLess ((js34).toList) ((js40).toList))) = true
    rotate_left
    ·rw [if_neg c161] at H
     exact absurd H (by simp)
    rw [if_pos c161] at H
    have c161b0 : ((decide (t389 < 0)) == (Op.bytesLess ((js34).toList) ((js40).toList))) = true := c161
    (try (have c161b1 : decide ((decide (t389 < 0)) = (Op.bytesLess ((js34).toList) ((js40).toList))) = true := by simpa using c161))
    (try (have c161b2 : ((decide (t389 < 0)) == (Op.bytesLess ((js34).toList) ((js40).toList))) = true := by simpa using c161))
    clear c161
    by_cases c162 : ((t389 == 0) == (t367 == t371 && (t368 == t372 && (t369 == t373 && (t370.toList == t374.toList))))) = true
    rotate_left
    ·rw [if_neg c162] at H
     exact absurd H (by simp)
    rw [if_pos c162] at H
    have c162b0 : ((t389 == 0) == (t367 == t371 && (t368 == t372 && (t369 == t373 && (t370.toList == t374.toList))))) = true := c162
    have c162d0 : (t367 == t371 && (t368 == t372 && (t369 == t373 && (t370.toList == t374.toList)))) = false := by have h_ := eq_of_beq c162b0; rw [c148b0] at h_; exact h_.symm
    (try (have c162d1 : (t367 = t371 ∧ t368 = t372 ∧ t369 = t373 ∧ t370.toList = t374.toList) = False := eq_false (by simpa using c162d0)))
    (try (have c162d2 : (¬t367 = t371 ∨ ¬t368 = t372 ∨ ¬t369 = t373 ∨ ¬t370.toList = t374.toList) = True := eq_true (by (have h_ : ¬ (t367 = t371 ∧ t368 = t372 ∧ t369 = t373 ∧ t370.toList = t374.toList) := by simpa using c162d0); simpa [Classical.not_and_iff_not_or_not] using h_)))
    (try (have c162b1 : decide ((t389 == 0) = (t367 == t371 && (t368 == t372 && (t369 == t373 && (t370.toList == t374.toList))))) = true := by simpa using c162))
    (try (have c162b2 : ((t389 == 0) == (t367 == t371 && (t368 == t372 && (t369 == t373 && (t370.toList == t374.toList))))) = true := by simpa using c162))
    clear c162
    replace H := bM H
    obtain ⟨t391, A1630, H⟩ := H
    replace H : (some t391) = some r := H
    have A163 := Aside0.mk A1630
    clear A1630
    obtain rfl := Option.some.inj H
    have hnb164 := NB366_364.out
    have hnc164 := NB364_366.out
    have hnb165 := NB366_365.out
    have hnc165 := NB365_366.out
    obtain ⟨hcz166_0, hcz166_1⟩ := zc2 BK366
    obtain ⟨hfz166_0, hfz166_1⟩ := zf2 BK366
    have hnb167 := NB364_365.out
    have hnc167 := NB365_364.out
    obtain ⟨hcz168_0, hcz168_1, hcz168_2, hcz168_3⟩ := zc4 BK364
    obtain ⟨hfz168_0, hfz168_1, hfz168_2, hfz168_3⟩ := zf4 BK364
    obtain ⟨hcz169_0, hcz169_1, hcz169_2, hcz169_3⟩ := zc4 BK365
    obtain ⟨hfz169_0, hfz169_1, hfz169_2, hfz169_3⟩ := zf4 BK365
    go_wp2_with (first | (go_at_call 17; (with_reducible refine (col_Compare.calls kj7 t367 t368 t369 t370 t371 t372 t373 t374 t389 _ A144.out).mono ?_); rintro e w170 ⟨rfl, hb⟩; replace BK364 := bb BK364 hb; replace BK365 := bb BK365 hb; replace BK366 := bb BK366 hb; replace HB := as_ (below_step bA hb); (try clear hb); (try clear hb2); (try clear hk); (try clear hi); obtain ⟨hcz171_0, hcz171_1, hcz171_2, hcz171_3⟩ := zc4 BK364; obtain ⟨hfz171_0, hfz171_1, hfz171_2, hfz171_3⟩ := zf4 BK364; obtain ⟨hcz172_0, hcz172_1, hcz172_2, hcz172_3⟩ := zc4 BK365; obtain ⟨hfz172_0, hfz172_1, hfz172_2, hfz172_3⟩ := zf4 BK365) | (go_at_call 19; (with_reducible refine (withylaw03_fixed.calls kj7  t391 _ A163.out).mono ?_); rintro e w173 ⟨rfl, hb⟩; replace BK364 := bb BK364 hb; replace BK365 := bb BK365 hb; replace BK366 := bb BK366 hb; replace HB := as_ (below_step bA hb); (try clear hb); (try clear hb2); (try clear hk); (try clear hi)))
    repeat (go_quiet (first | (go_at_call 17; (with_reducible refine (col_Compare.calls kj7 t367 t368 t369 t370 t371 t372 t373 t374 t389 _ A144.out).mono ?_); rintro e w170 ⟨rfl, hb⟩; replace BK364 := bb BK364 hb; replace BK365 := bb BK365 hb; replace BK366 := bb BK366 hb; replace HB := as_ (below_step bA hb); (try clear hb); (try clear hb2); (try clear hk); (try clear hi); obtain ⟨hcz171_0, hcz171_1, hcz171_2, hcz171_3⟩ := zc4 BK364; obtain ⟨hfz171_0, hfz171_1, hfz171_2, hfz171_3⟩ := zf4 BK364; obtain ⟨hcz172_0, hcz172_1, hcz172_2, hcz172_3⟩ := zc4 BK365; obtain ⟨hfz172_0, hfz172_1, hfz172_2, hfz172_3⟩ := zf4 BK365) | (go_at_call 19; (with_reducible refine (withylaw03_fixed.calls kj7  t391 _ A163.out).mono ?_); rintro e w173 ⟨rfl, hb⟩; replace BK364 := bb BK364 hb; replace BK365 := bb BK365 hb; replace BK366 := bb BK366 hb; replace HB := as_ (below_step bA hb); (try clear hb); (try clear hb2); (try clear hk); (try clear hi))); try go_wp2_with (first | (go_at_call 17; (with_reducible refine (col_Compare.calls kj7 t367 t368 t369 t370 t371 t372 t373 t374 t389 _ A144.out).mono ?_); rintro e w170 ⟨rfl, hb⟩; replace BK364 := bb BK364 hb; replace BK365 := bb BK365 hb; replace BK366 := bb BK366 hb; replace HB := as_ (below_step bA hb); (try clear hb); (try clear hb2); (try clear hk); (try clear hi); obtain ⟨hcz171_0, hcz171_1, hcz171_2, hcz171_3⟩ := zc4 BK364; obtain ⟨hfz171_0, hfz171_1, hfz171_2, hfz171_3⟩ := zf4 BK364; obtain ⟨hcz172_0, hcz172_1, hcz172_2, hcz172_3⟩ := zc4 BK365; obtain ⟨hfz172_0, hfz172_1, hfz172_2, hfz172_3⟩ := zf4 BK365) | (go_at_call 19; (with_reducible refine (withylaw03_fixed.calls kj7  t391 _ A163.out).mono ?_); rintro e w173 ⟨rfl, hb⟩; replace BK364 := bb BK364 hb; replace BK365 := bb BK365 hb; replace BK366 := bb BK366 hb; replace HB := as_ (below_step bA hb); (try clear hb); (try clear hb2); (try clear hk); (try clear hi))))
    go_ret
    exact ⟨by first | rfl | (simp [errW_none, errW_some] <;> rfl) | (simp only [← hji29, ← hjs32, ← hjs34, ← hji35, ← hjs38, ← hjs40, ← hjs143]; first | rfl | (simp [errW_none, errW_some] <;> rfl)) | (simp [*, errW_none, errW_some] <;> rfl), by repeat (first | (with_reducible first | exact HB.out | apply below_alloc | apply pw_below_drewN | apply below_drew1 | refine below_set ?_ GE364.out | refine below_set ?_ GE365.out | refine below_set ?_ GE366.out) | exact HB.out)⟩
   rw [if_pos c41] at H
   have c41b0 : decide ((t375.size : Int) ≤ (t377.size : Int)) = true := decide_eq_true c41
   have c41b1 : decide (t375.size ≤ t377.size) = true := decide_eq_true (Int.ofNat_le.mp c41)
   clear c41
   by_cases c42 : 0 ≤ (t375.size : Int)
   rotate_left
   ·rw [if_neg c42] at H
    exact absurd H (by simp)
   rw [if_pos c42] at H
   have c42b0 := eq_true c42
   have c42b1 : decide (0 ≤ (t375.size : Int)) = true := decide_eq_true c42
   clear c42
   have c43b0 := eq_true (of_decide_eq_true aM : (t375.size : Int) ≤ (t377.size : Int))
   obtain ⟨js44, hjs44⟩ : ∃ j_ : ByteArray, (t377.extract 0 t375.size) = j_ := ⟨_, rfl⟩
   replace H : (if (js44).toList = t375.toList then ((col_Compare.f kj7 t367 t368 t369 t370 t371 t372 t373 t374).bind fun t380 => (if ((decide (t380 < 0)) == (Op.bytesLess t375.toList t377.toList)) = true then (if ((t380 == 0) == (t375.toList == t377.toList)) = true then (if (true == (t380 == 0)) = true then (if t380 = 0 then (if ((t380 == 0) == (t367 == t371 && (t368 == t372 && (t369 == t373 && (t370.toList == t374.toList))))) = true then ((withylaw03_fixed.f kj7).bind fun t381 => (some t381)) else (none)) else (if ((decide (t380 < 0)) == (Op.bytesLess ((js34).toList) ((js40).toList))) = true then (if ((t380 == 0) == (t367 == t371 && (t368 == t372 && (t369 == t373 && (t370.toList == t374.toList))))) = true then ((withylaw03_fixed.f kj7).bind fun t382 => (some t382)) else (none)) else (none))) else (none)) else (none)) else (none))) else (if (t377.size : Int) ≤ (t375.size : Int) then (if 0 ≤ (t377.size : Int) then ((col_Compare.f kj7 t367 t368 t369 t370 t371 t372 t373 t374).bind fun t383 => (if ((decide (t383 < 0)) == (Op.bytesLess t375.toList t377.toList)) = true then (if ((t383 == 0) == (t375.toList == t377.toList)) = true then (if (((t375.extract 0 t377.size).toList == t377.toList) == (t383 == 0)) = true then (if t383 = 0 then (if ((t383 == 0) == (t367 == t371 && (t368 == t372 && (t369 == t373 && (t370.toList == t374.toList))))) = true then ((withylaw03_fixed.f kj7).bind fun t384 => (some t384)) else (none)) else (if ((decide (t383 < 0)) == (Op.bytesLess ((js34).toList) ((js40).toList))) = true then (if ((t383 == 0) == (t367 == t371 && (t368 == t372 && (t369 == t373 && (t370.toList == t374.toList))))) = true then ((withylaw03_fixed.f kj7).bind fun t385 => (some t385)) else (none)) else (none))) else (none)) else (none)) else (none))) else (none)) else ((col_Compare.f kj7 t367 t368 t369 t370 t371 t372 t373 t374).bind fun t386 => (if ((decide (t386 < 0)) == (Op.bytesLess t375.toList t377.toList)) = true then (if ((t386 == 0) == (t375.toList == t377.toList)) = true then (if (false == (t386 == 0)) = true then (if t386 = 0 then (if ((t386 == 0) == (t367 == t371 && (t368 == t372 && (t369 == t373 && (t370.toList == t374.toList))))) = true then ((withylaw03_fixed.f kj7).bind fun t387 => (some t387)) else (none)) else (if ((decide (t386 < 0)) == (Op.bytesLess ((js34).toList) ((js40).toList))) = true then (if ((t386 == 0) == (t367 == t371 && (t368 == t372 && (t369 == t373 && (t370.toList == t374.toList))))) = true then ((withylaw03_fixed.f kj7).bind fun t388 => (some t388)) else (none)) else (none))) else (none)) else (none)) else (none))))) = some r := by first | (rw [hjs44] at H; exact H) | (simp only [hjs44] at H ⊢; exact H)
   by_cases c45 : (js44).toList = t375.toList
   ·rw [if_pos c45] at H
    have c45b0 : ((js44).toList == t375.toList) = true := beq_iff_eq.mpr c45
    have c45b1 : ((js44).toList != t375.toList) = false := bne_eq_false_iff_eq.mpr c45
    clear c45
    replace H := bM H
    obtain ⟨t380, A460, H⟩ := H
    replace H : (if ((decide (t380 < 0)) == (Op.bytesLess t375.toList t377.toList)) = true then (if ((t380 == 0) == (t375.toList == t377.toList)) = true then (if (true == (t380 == 0)) = true then (if t380 = 0 then (if ((t380 == 0) == (t367 == t371 && (t368 == t372 && (t369 == t373 && (t370.toList == t374.toList))))) = true then ((withylaw03_fixed.f kj7).bind fun t381 => (some t381)) else (none)) else (if ((decide (t380 < 0)) == (Op.bytesLess ((js34).toList) ((js40).toList))) = true then (if ((t380 == 0) == (t367 == t371 && (t368 == t372 && (t369 == t373 && (t370.toList == t374.toList))))) = true then ((withylaw03_fixed.f kj7).bind fun t382 => (some t382)) else (none)) else (none))) else (none)) else (none)) else (none)) = some r := H
    have A46 := Aside0.mk A460
    clear A460
    by_cases c47 : ((decide (t380 < 0)) == (Op.bytesLess t375.toList t377.toList)) = true
    rotate_left
    ·rw [if_neg c47] at H
     exact absurd H (by simp)
    rw [if_pos c47] at H
    have c47b0 : ((decide (t380 < 0)) == (Op.bytesLess t375.toList t377.toList)) = true := c47
    (try (have c47b1 : decide ((decide (t380 < 0)) = (Op.bytesLess t375.toList t377.toList)) = true := by simpa using c47))
    (try (have c47b2 : ((decide (t380 < 0)) == (Op.bytesLess t375.toList t377.toList)) = true := by simpa using c47))
    clear c47
    by_cases c48 : ((t380 == 0) == (t375.toList == t377.toList)) = true
    rotate_left
    ·rw [if_neg c48] at H
     exact absurd H (by simp)
    rw [if_pos c48] at H
    have c48b0 : ((t380 == 0) == (t375.toList == t377.toList)) = true := c48
    (try (have c48b1 : decide ((t380 == 0) = (t375.toList == t377.toList)) = true := by simpa using c48))
    (try (have c48b2 : ((t380 == 0) == (t375.toList == t377.toList)) = true := by simpa using c48))
    clear c48
    by_cases c49 : (true == (t380 == 0)) = true
    rotate_left
    ·rw [if_neg c49] at H
     exact absurd H (by simp)
    rw [if_pos c49] at H
    have c49b0 : (true == (t380 == 0)) = true := c49
    (try (have c49b1 : (t380 == 0) = true := by simpa using c49))
    (try (have c49b2 : decide (true = (t380 == 0)) = true := by simpa using c49))
    (try (have c49b3 : (true == (t380 == 0)) = true := by simpa using c49))
    clear c49
    by_cases c50 : t380 = 0
    rotate_left
    ·rw [if_neg c50] at H
     have c50b0 : (t380 == 0) = false := beq_eq_false_iff_ne.mpr c50
     (try (have c48u : decide (t375.toList = t377.toList) = true := by have h_ := c48b0; rw [c50b0] at h_; simpa using h_))
     (try (have c48t : (t375.toList == t377.toList) = true := by have h_ := c48b0; rw [c50b0] at h_; simpa using h_))
     (try (have c48u : decide (t375.toList = t377.toList) = false := by have h_ := c48b0; rw [c50b0] at h_; simpa using h_))
     (try (have c48t : (t375.toList == t377.toList) = false := by have h_ := c48b0; rw [c50b0] at h_; simpa using h_))
     exact absurd ((eq_of_beq c49b0).trans c50b0) (by decide)
    rw [if_pos c50] at H
    have c50b0 : (t380 == 0) = true := beq_iff_eq.mpr c50
    (try (have c48u : decide (t375.toList = t377.toList) = true := by have h_ := c48b0; rw [c50b0] at h_; simpa using h_))
    (try (have c48t : (t375.toList == t377.toList) = true := by have h_ := c48b0; rw [c50b0] at h_; simpa using h_))
    (try (have c48u : decide (t375.toList = t377.toList) = false := by have h_ := c48b0; rw [c50b0] at h_; simpa using h_))
    (try (have c48t : (t375.toList == t377.toList) = false := by have h_ := c48b0; rw [c50b0] at h_; simpa using h_))
    have c48d0 : (t375.toList == t377.toList) = true := by have h_ := eq_of_beq c48b0; rw [c50b0] at h_; exact h_.symm
    (try (have c48d1 : (t375.toList = t377.toList) = True := eq_true (by simpa using c48d0)))
    have c50b1 : (t380 != 0) = false := bne_eq_false_iff_eq.mpr c50
    clear c50
    by_cases c51 : ((t380 == 0) == (t367 == t371 && (t368 == t372 && (t369 == t373 && (t370.toList == t374.toList))))) = true
    rotate_left
    ·rw [if_neg c51] at H
     exact absurd H (by simp)
    rw [if_pos c51] at H
    have c51b0 : ((t380 == 0) == (t367 == t371 && (t368 == t372 && (t369 == t373 && (t370.toList == t374.toList))))) = true := c51
    have c51d0 : (t367 == t371 && (t368 == t372 && (t369 == t373 && (t370.toList == t374.toList)))) = true := by have h_ := eq_of_beq c51b0; rw [c50b0] at h_; exact h_.symm
    (try (have c51d1 : (t367 = t371 ∧ t368 = t372 ∧ t369 = t373 ∧ t370.toList = t374.toList) = True := eq_true (by simpa using c51d0)))
    (try (have c51d2 : (¬t367 = t371 ∨ ¬t368 = t372 ∨ ¬t369 = t373 ∨ ¬t370.toList = t374.toList) = False := eq_false (by simp [show t367 = t371 ∧ t368 = t372 ∧ t369 = t373 ∧ t370.toList = t374.toList from by simpa using c51d0])))
    (try (have c51b1 : decide ((t380 == 0) = (t367 == t371 && (t368 == t372 && (t369 == t373 && (t370.toList == t374.toList))))) = true := by simpa using c51))
    (try (have c51b2 : ((t380 == 0) == (t367 == t371 && (t368 == t372 && (t369 == t373 && (t370.toList == t374.toList))))) = true := by simpa using c51))
    clear c51
    replace H := bM H
    obtain ⟨t381, A520, H⟩ := H
    replace H : (some t381) = some r := H
    have A52 := Aside0.mk A520
    clear A520
    obtain rfl := Option.some.inj H
    have hnb53 := NB366_364.out
    have hnc53 := NB364_366.out
    have hnb54 := NB366_365.out
    have hnc54 := NB365_366.out
    obtain ⟨hcz55_0, hcz55_1⟩ := zc2 BK366
    obtain ⟨hfz55_0, hfz55_1⟩ := zf2 BK366
    have hnb56 := NB364_365.out
    have hnc56 := NB365_364.out
    obtain ⟨hcz57_0, hcz57_1, hcz57_2, hcz57_3⟩ := zc4 BK364
    obtain ⟨hfz57_0, hfz57_1, hfz57_2, hfz57_3⟩ := zf4 BK364
    obtain ⟨hcz58_0, hcz58_1, hcz58_2, hcz58_3⟩ := zc4 BK365
    obtain ⟨hfz58_0, hfz58_1, hfz58_2, hfz58_3⟩ := zf4 BK365
    go_wp2_with (first | (go_at_call 17; (with_reducible refine (col_Compare.calls kj7 t367 t368 t369 t370 t371 t372 t373 t374 t380 _ A46.out).mono ?_); rintro e w59 ⟨rfl, hb⟩; replace BK364 := bb BK364 hb; replace BK365 := bb BK365 hb; replace BK366 := bb BK366 hb; replace HB := as_ (below_step bA hb); (try clear hb); (try clear hb2); (try clear hk); (try clear hi); obtain ⟨hcz60_0, hcz60_1, hcz60_2, hcz60_3⟩ := zc4 BK364; obtain ⟨hfz60_0, hfz60_1, hfz60_2, hfz60_3⟩ := zf4 BK364; obtain ⟨hcz61_0, hcz61_1, hcz61_2, hcz61_3⟩ := zc4 BK365; obtain ⟨hfz61_0, hfz61_1, hfz61_2, hfz61_3⟩ := zf4 BK365) | (go_at_call 19; (with_reducible refine (withylaw03_fixed.calls kj7  t381 _ A52.out).mono ?_); rintro e w62 ⟨rfl, hb⟩; replace BK364 := bb BK364 hb; replace BK365 := bb BK365 hb; replace BK366 := bb BK366 hb; replace HB := as_ (below_step bA hb); (try clear hb); (try clear hb2); (try clear hk); (try clear hi)))
    repeat (go_quiet (first | (go_at_call 17; (with_reducible refine (col_Compare.calls kj7 t367 t368 t369 t370 t371 t372 t373 t374 t380 _ A46.out).mono ?_); rintro e w59 ⟨rfl, hb⟩; replace BK364 := bb BK364 hb; replace BK365 := bb BK365 hb; replace BK366 := bb BK366 hb; replace HB := as_ (below_step bA hb); (try clear hb); (try clear hb2); (try clear hk); (try clear hi); obtain ⟨hcz60_0, hcz60_1, hcz60_2, hcz60_3⟩ := zc4 BK364; obtain ⟨hfz60_0, hfz60_1, hfz60_2, hfz60_3⟩ := zf4 BK364; obtain ⟨hcz61_0, hcz61_1, hcz61_2, hcz61_3⟩ := zc4 BK365; obtain ⟨hfz61_0, hfz61_1, hfz61_2, hfz61_3⟩ := zf4 BK365) | (go_at_call 19; (with_reducible refine (withylaw03_fixed.calls kj7  t381 _ A52.out).mono ?_); rintro e w62 ⟨rfl, hb⟩; replace BK364 := bb BK364 hb; replace BK365 := bb BK365 hb; replace BK366 := bb BK366 hb; replace HB := as_ (below_step bA hb); (try clear hb); (try clear hb2); (try clear hk); (try clear hi))); try go_wp2_with (first | (go_at_call 17; (with_reducible refine (col_Compare.calls kj7 t367 t368 t369 t370 t371 t372 t373 t374 t380 _ A46.out).mono ?_); rintro e w59 ⟨rfl, hb⟩; replace BK364 := bb BK364 hb; replace BK365 := bb BK365 hb; replace BK366 := bb BK366 hb; replace HB := as_ (below_step bA hb); (try clear hb); (try clear hb2); (try clear hk); (try clear hi); obtain ⟨hcz60_0, hcz60_1, hcz60_2, hcz60_3⟩ := zc4 BK364; obtain ⟨hfz60_0, hfz60_1, hfz60_2, hfz60_3⟩ := zf4 BK364; obtain ⟨hcz61_0, hcz61_1, hcz61_2, hcz61_3⟩ := zc4 BK365; obtain ⟨hfz61_0, hfz61_1, hfz61_2, hfz61_3⟩ := zf4 BK365) | (go_at_call 19; (with_reducible refine (withylaw03_fixed.calls kj7  t381 _ A52.out).mono ?_); rintro e w62 ⟨rfl, hb⟩; replace BK364 := bb BK364 hb; replace BK365 := bb BK365 hb; replace BK366 := bb BK366 hb; replace HB := as_ (below_step bA hb); (try clear hb); (try clear hb2); (try clear hk); (try clear hi))))
    go_ret
    exact ⟨by first | rfl | (simp [errW_none, errW_some] <;> rfl) | (simp only [← hji29, ← hjs32, ← hjs34, ← hji35, ← hjs38, ← hjs40, ← hjs44]; first | rfl | (simp [errW_none, errW_some] <;> rfl)) | (simp [*, errW_none, errW_some] <;> rfl), by repeat (first | (with_reducible first | exact HB.out | apply below_alloc | apply pw_below_drewN | apply below_drew1 | refine below_set ?_ GE364.out | refine below_set ?_ GE365.out | refine below_set ?_ GE366.out) | exact HB.out)⟩
   rw [if_neg c45] at H
   have c45b0 : ((js44).toList == t375.toList) = false := beq_eq_false_iff_ne.mpr c45
   have c45b1 : ((js44).toList != t375.toList) = true := bne_iff_ne.mpr c45
   by_cases c76 : (t377.size : Int) ≤ (t375.size : Int)
   rotate_left
   ·rw [if_neg c76] at H
    have c76b0 : decide ((t377.size : Int) ≤ (t375.size : Int)) = false := decide_eq_false c76
    have c76b1 : decide (t377.size ≤ t375.size) = false := decide_eq_false (fun h => c76 (Int.ofNat_le.mpr h))
    clear c76
    replace H := bM H
    obtain ⟨t386, A1100, H⟩ := H
    replace H : (if ((decide (t386 < 0)) == (Op.bytesLess t375.toList t377.toList)) = true then (if ((t386 == 0) == (t375.toList == t377.toList)) = true then (if (false == (t386 == 0)) = true then (if t386 = 0 then (if ((t386 == 0) == (t367 == t371 && (t368 == t372 && (t369 == t373 && (t370.toList == t374.toList))))) = true then ((withylaw03_fixed.f kj7).bind fun t387 => (some t387)) else (none)) else (if ((decide (t386 < 0)) == (Op.bytesLess ((js34).toList) ((js40).toList))) = true then (if ((t386 == 0) == (t367 == t371 && (t368 == t372 && (t369 == t373 && (t370.toList == t374.toList))))) = true then ((withylaw03_fixed.f kj7).bind fun t388 => (some t388)) else (none)) else (none))) else (none)) else (none)) else (none)) = some r := H
    have A110 := Aside0.mk A1100
    clear A1100
    by_cases c111 : ((decide (t386 < 0)) == (Op.bytesLess t375.toList t377.toList)) = true
    rotate_left
    ·rw [if_neg c111] at H
     exact absurd H (by simp)
    rw [if_pos c111] at H
    have c111b0 : ((decide (t386 < 0)) == (Op.bytesLess t375.toList t377.toList)) = true := c111
    (try (have c111b1 : decide ((decide (t386 < 0)) = (Op.bytesLess t375.toList t377.toList)) = true := by simpa using c111))
    (try (have c111b2 : ((decide (t386 < 0)) == (Op.bytesLess t375.toList t377.toList)) = true := by simpa using c111))
    clear c111
    by_cases c112 : ((t386 == 0) == (t375.toList == t377.toList)) = true
    rotate_left
    ·rw [if_neg c112] at H
     exact absurd H (by simp)
    rw [if_pos c112] at H
    have c112b0 : ((t386 == 0) == (t375.toList == t377.toList)) = true := c112
    (try (have c112b1 : decide ((t386 == 0) = (t375.toList == t377.toList)) = true := by simpa using c112))
    (try (have c112b2 : ((t386 == 0) == (t375.toList == t377.toList)) = true := by simpa using c112))
    clear c112
    by_cases c113 : (false == (t386 == 0)) = true
    rotate_left
    ·rw [if_neg c113] at H
     exact absurd H (by simp)
    rw [if_pos c113] at H
    have c113b0 : (false == (t386 == 0)) = true := c113
    (try (have c113b1 : (t386 == 0) = false := by simpa using c113))
    (try (have c113b2 : decide (false = (t386 == 0)) = true := by simpa using c113))
    (try (have c113b3 : (false == (t386 == 0)) = true := by simpa using c113))
    clear c113
    by_cases c114 : t386 = 0
    ·rw [if_pos c114] at H
     have c114b0 : (t386 == 0) = true := beq_iff_eq.mpr c114
     (try (have c112u : decide (t375.toList = t377.toList) = true := by have h_ := c112b0; rw [c114b0] at h_; simpa using h_))
     (try (have c112t : (t375.toList == t377.toList) = true := by have h_ := c112b0; rw [c114b0] at h_; simpa using h_))
     (try (have c112u : decide (t375.toList = t377.toList) = false := by have h_ := c112b0; rw [c114b0] at h_; simpa using h_))
     (try (have c112t : (t375.toList == t377.toList) = false := by have h_ := c112b0; rw [c114b0] at h_; simpa using h_))
     exact absurd ((eq_of_beq c113b0).trans c114b0) (by decide)
    rw [if_neg c114] at H
    have c114b0 : (t386 == 0) = false := beq_eq_false_iff_ne.mpr c114
    (try (have c112u : decide (t375.toList = t377.toList) = true := by have h_ := c112b0; rw [c114b0] at h_; simpa using h_))
    (try (have c112t : (t375.toList == t377.toList) = true := by have h_ := c112b0; rw [c114b0] at h_; simpa using h_))
    (try (have c112u : decide (t375.toList = t377.toList) = false := by have h_ := c112b0; rw [c114b0] at h_; simpa using h_))
    (try (have c112t : (t375.toList == t377.toList) = false := by have h_ := c112b0; rw [c114b0] at h_; simpa using h_))
    have c112d0 : (t375.toList == t377.toList) = false := by have h_ := eq_of_beq c112b0; rw [c114b0] at h_; exact h_.symm
    (try (have c112d1 : (t375.toList = t377.toList) = False := eq_false (by simpa using c112d0)))
    have c114b1 : (t386 != 0) = true := bne_iff_ne.mpr c114
    by_cases c127 : ((decide (t386 < 0)) == (Op.bytesLess ((js34).toList) ((js40).toList))) = true
    rotate_left
    ·rw [if_neg c127] at H
     exact absurd H (by simp)
    rw [if_pos c127] at H
    have c127b0 : ((decide (t386 < 0)) == (Op.bytesLess ((js34).toList) ((js40).toList))) = true := c127
    (try (have c127b1 : decide ((decide (t386 < 0)) = (Op.bytesLess ((js34).toList) ((js40).toList))) = true := by simpa using c127))
    (try (have c127b2 : ((decide (t386 < 0)) == (Op.bytesLess ((js34).toList) ((js40).toList))) = true := by simpa using c127))
    clear c127
    by_cases c128 : ((t386 == 0) == (t367 == t371 && (t368 == t372 && (t369 == t373 && (t370.toList == t374.toList))))) = true
    rotate_left
    ·rw [if_neg c128] at H
     exact absurd H (by simp)
    rw [if_pos c128] at H
    have c128b0 : ((t386 == 0) == (t367 == t371 && (t368 == t372 && (t369 == t373 && (t370.toList == t374.toList))))) = true := c128
    have c128d0 : (t367 == t371 && (t368 == t372 && (t369 == t373 && (t370.toList == t374.toList)))) = false := by have h_ := eq_of_beq c128b0; rw [c114b0] at h_; exact h_.symm
    (try (have c128d1 : (t367 = t371 ∧ t368 = t372 ∧ t369 = t373 ∧ t370.toList = t374.toList) = False := eq_false (by simpa using c128d0)))
    (try (have c128d2 : (¬t367 = t371 ∨ ¬t368 = t372 ∨ ¬t369 = t373 ∨ ¬t370.toList = t374.toList) = True := eq_true (by (have h_ : ¬ (t367 = t371 ∧ t368 = t372 ∧ t369 = t373 ∧ t370.toList = t374.toList) := by simpa using c128d0); simpa [Classical.not_and_iff_not_or_not] using h_)))
    (try (have c128b1 : decide ((t386 == 0) = (t367 == t371 && (t368 == t372 && (t369 == t373 && (t370.toList == t374.toList))))) = true := by simpa using c128))
    (try (have c128b2 : ((t386 == 0) == (t367 == t371 && (t368 == t372 && (t369 == t373 && (t370.toList == t374.toList))))) = true := by simpa using c128))
    clear c128
    replace H := bM H
    obtain ⟨t388, A1290, H⟩ := H
    replace H : (some t388) = some r := H
    have A129 := Aside0.mk A1290
    clear A1290
    obtain rfl := Option.some.inj H
    have hnb130 := NB366_364.out
    have hnc130 := NB364_366.out
    have hnb131 := NB366_365.out
    have hnc131 := NB365_366.out
    obtain ⟨hcz132_0, hcz132_1⟩ := zc2 BK366
    obtain ⟨hfz132_0, hfz132_1⟩ := zf2 BK366
    have hnb133 := NB364_365.out
    have hnc133 := NB365_364.out
    obtain ⟨hcz134_0, hcz134_1, hcz134_2, hcz134_3⟩ := zc4 BK364
    obtain ⟨hfz134_0, hfz134_1, hfz134_2, hfz134_3⟩ := zf4 BK364
    obtain ⟨hcz135_0, hcz135_1, hcz135_2, hcz135_3⟩ := zc4 BK365
    obtain ⟨hfz135_0, hfz135_1, hfz135_2, hfz135_3⟩ := zf4 BK365
    go_wp2_with (first | (go_at_call 17; (with_reducible refine (col_Compare.calls kj7 t367 t368 t369 t370 t371 t372 t373 t374 t386 _ A110.out).mono ?_); rintro e w136 ⟨rfl, hb⟩; replace BK364 := bb BK364 hb; replace BK365 := bb BK365 hb; replace BK366 := bb BK366 hb; replace HB := as_ (below_step bA hb); (try clear hb); (try clear hb2); (try clear hk); (try clear hi); obtain ⟨hcz137_0, hcz137_1, hcz137_2, hcz137_3⟩ := zc4 BK364; obtain ⟨hfz137_0, hfz137_1, hfz137_2, hfz137_3⟩ := zf4 BK364; obtain ⟨hcz138_0, hcz138_1, hcz138_2, hcz138_3⟩ := zc4 BK365; obtain ⟨hfz138_0, hfz138_1, hfz138_2, hfz138_3⟩ := zf4 BK365) | (go_at_call 19; (with_reducible refine (withylaw03_fixed.calls kj7  t388 _ A129.out).mono ?_); rintro e w139 ⟨rfl, hb⟩; replace BK364 := bb BK364 hb; replace BK365 := bb BK365 hb; replace BK366 := bb BK366 hb; replace HB := as_ (below_step bA hb); (try clear hb); (try clear hb2); (try clear hk); (try clear hi)))
    repeat (go_quiet (first | (go_at_call 17; (with_reducible refine (col_Compare.calls kj7 t367 t368 t369 t370 t371 t372 t373 t374 t386 _ A110.out).mono ?_); rintro e w136 ⟨rfl, hb⟩; replace BK364 := bb BK364 hb; replace BK365 := bb BK365 hb; replace BK366 := bb BK366 hb; replace HB := as_ (below_step bA hb); (try clear hb); (try clear hb2); (try clear hk); (try clear hi); obtain ⟨hcz137_0, hcz137_1, hcz137_2, hcz137_3⟩ := zc4 BK364; obtain ⟨hfz137_0, hfz137_1, hfz137_2, hfz137_3⟩ := zf4 BK364; obtain ⟨hcz138_0, hcz138_1, hcz138_2, hcz138_3⟩ := zc4 BK365; obtain ⟨hfz138_0, hfz138_1, hfz138_2, hfz138_3⟩ := zf4 BK365) | (go_at_call 19; (with_reducible refine (withylaw03_fixed.calls kj7  t388 _ A129.out).mono ?_); rintro e w139 ⟨rfl, hb⟩; replace BK364 := bb BK364 hb; replace BK365 := bb BK365 hb; replace BK366 := bb BK366 hb; replace HB := as_ (below_step bA hb); (try clear hb); (try clear hb2); (try clear hk); (try clear hi))); try go_wp2_with (first | (go_at_call 17; (with_reducible refine (col_Compare.calls kj7 t367 t368 t369 t370 t371 t372 t373 t374 t386 _ A110.out).mono ?_); rintro e w136 ⟨rfl, hb⟩; replace BK364 := bb BK364 hb; replace BK365 := bb BK365 hb; replace BK366 := bb BK366 hb; replace HB := as_ (below_step bA hb); (try clear hb); (try clear hb2); (try clear hk); (try clear hi); obtain ⟨hcz137_0, hcz137_1, hcz137_2, hcz137_3⟩ := zc4 BK364; obtain ⟨hfz137_0, hfz137_1, hfz137_2, hfz137_3⟩ := zf4 BK364; obtain ⟨hcz138_0, hcz138_1, hcz138_2, hcz138_3⟩ := zc4 BK365; obtain ⟨hfz138_0, hfz138_1, hfz138_2, hfz138_3⟩ := zf4 BK365) | (go_at_call 19; (with_reducible refine (withylaw03_fixed.calls kj7  t388 _ A129.out).mono ?_); rintro e w139 ⟨rfl, hb⟩; replace BK364 := bb BK364 hb; replace BK365 := bb BK365 hb; replace BK366 := bb BK366 hb; replace HB := as_ (below_step bA hb); (try clear hb); (try clear hb2); (try clear hk); (try clear hi))))
    go_ret
    exact ⟨by first | rfl | (simp [errW_none, errW_some] <;> rfl) | (simp only [← hji29, ← hjs32, ← hjs34, ← hji35, ← hjs38, ← hjs40, ← hjs44]; first | rfl | (simp [errW_none, errW_some] <;> rfl)) | (simp [*, errW_none, errW_some] <;> rfl), by repeat (first | (with_reducible first | exact HB.out | apply below_alloc | apply pw_below_drewN | apply below_drew1 | refine below_set ?_ GE364.out | refine below_set ?_ GE365.out | refine below_set ?_ GE366.out) | exact HB.out)⟩
   rw [if_pos c76] at H
   have c76b0 : decide ((t377.size : Int) ≤ (t375.size : Int)) = true := decide_eq_true c76
   have c76b1 : decide (t377.size ≤ t375.size) = true := decide_eq_true (Int.ofNat_le.mp c76)
   clear c76
   by_cases c77 : 0 ≤ (t377.size : Int)
   rotate_left
   ·rw [if_neg c77] at H
    exact absurd H (by simp)
   rw [if_pos c77] at H
   have c77b0 := eq_true c77
   have c77b1 : decide (0 ≤ (t377.size : Int)) = true := decide_eq_true c77
   clear c77
   have c78b0 := eq_true (of_decide_eq_true aM : (t377.size : Int) ≤ (t375.size : Int))
   obtain ⟨js79, hjs79⟩ : ∃ j_ : ByteArray, (t375.extract 0 t377.size) = j_ := ⟨_, rfl⟩
   replace H : ((col_Compare.f kj7 t367 t368 t369 t370 t371 t372 t373 t374).bind fun t383 => (if ((decide (t383 < 0)) == (Op.bytesLess t375.toList t377.toList)) = true then (if ((t383 == 0) == (t375.toList == t377.toList)) = true then (if (((js79).toList == t377.toList) == (t383 == 0)) = true then (if t383 = 0 then (if ((t383 == 0) == (t367 == t371 && (t368 == t372 && (t369 == t373 && (t370.toList == t374.toList))))) = true then ((withylaw03_fixed.f kj7).bind fun t384 => (some t384)) else (none)) else (if ((decide (t383 < 0)) == (Op.bytesLess ((js34).toList) ((js40).toList))) = true then (if ((t383 == 0) == (t367 == t371 && (t368 == t372 && (t369 == t373 && (t370.toList == t374.toList))))) = true then ((withylaw03_fixed.f kj7).bind fun t385 => (some t385)) else (none)) else (none))) else (none)) else (none)) else (none))) = some r := by first | (rw [hjs79] at H; exact H) | (simp only [hjs79] at H ⊢; exact H)
   replace H := bM H
   obtain ⟨t383, A800, H⟩ := H
   replace H : (if ((decide (t383 < 0)) == (Op.bytesLess t375.toList t377.toList)) = true then (if ((t383 == 0) == (t375.toList == t377.toList)) = true then (if (((js79).toList == t377.toList) == (t383 == 0)) = true then (if t383 = 0 then (if ((t383 == 0) == (t367 == t371 && (t368 == t372 && (t369 == t373 && (t370.toList == t374.toList))))) = true then ((withylaw03_fixed.f kj7).bind fun t384 => (some t384)) else (none)) else (if ((decide (t383 < 0)) == (Op.bytesLess ((js34).toList) ((js40).toList))) = true then (if ((t383 == 0) == (t367 == t371 && (t368 == t372 && (t369 == t373 && (t370.toList == t374.toList))))) = true then ((withylaw03_fixed.f kj7).bind fun t385 => (some t385)) else (none)) else (none))) else (none)) else (none)) else (none)) = some r := H
   have A80 := Aside0.mk A800
   clear A800
   by_cases c81 : ((decide (t383 < 0)) == (Op.bytesLess t375.toList t377.toList)) = true
   rotate_left
   ·rw [if_neg c81] at H
    exact absurd H (by simp)
   rw [if_pos c81] at H
   have c81b0 : ((decide (t383 < 0)) == (Op.bytesLess t375.toList t377.toList)) = true := c81
   (try (have c81b1 : decide ((decide (t383 < 0)) = (Op.bytesLess t375.toList t377.toList)) = true := by simpa using c81))
   (try (have c81b2 : ((decide (t383 < 0)) == (Op.bytesLess t375.toList t377.toList)) = true := by simpa using c81))
   clear c81
   by_cases c82 : ((t383 == 0) == (t375.toList == t377.toList)) = true
   rotate_left
   ·rw [if_neg c82] at H
    exact absurd H (by simp)
   rw [if_pos c82] at H
   have c82b0 : ((t383 == 0) == (t375.toList == t377.toList)) = true := c82
   (try (have c82b1 : decide ((t383 == 0) = (t375.toList == t377.toList)) = true := by simpa using c82))
   (try (have c82b2 : ((t383 == 0) == (t375.toList == t377.toList)) = true := by simpa using c82))
   clear c82
   by_cases c83 : (((js79).toList == t377.toList) == (t383 == 0)) = true
   rotate_left
   ·rw [if_neg c83] at H
    exact absurd H (by simp)
   rw [if_pos c83] at H
   have c83b0 : (((js79).toList == t377.toList) == (t383 == 0)) = true := c83
   (try (have c83b1 : decide (((js79).toList == t377.toList) = (t383 == 0)) = true := by simpa using c83))
   (try (have c83b2 : (((js79).toList == t377.toList) == (t383 == 0)) = true := by simpa using c83))
   clear c83
   by_cases c84 : t383 = 0
   ·rw [if_pos c84] at H
    have c84b0 : (t383 == 0) = true := beq_iff_eq.mpr c84
    (try (have c82u : decide (t375.toList = t377.toList) = true := by have h_ := c82b0; rw [c84b0] at h_; simpa using h_))
    (try (have c82t : (t375.toList == t377.toList) = true := by have h_ := c82b0; rw [c84b0] at h_; simpa using h_))
    (try (have c82u : decide (t375.toList = t377.toList) = false := by have h_ := c82b0; rw [c84b0] at h_; simpa using h_))
    (try (have c82t : (t375.toList == t377.toList) = false := by have h_ := c82b0; rw [c84b0] at h_; simpa using h_))
    have c82d0 : (t375.toList == t377.toList) = true := by have h_ := eq_of_beq c82b0; rw [c84b0] at h_; exact h_.symm
    (try (have c82d1 : (t375.toList = t377.toList) = True := eq_true (by simpa using c82d0)))
    have c83d0 : ((js79).toList == t377.toList) = true := by have h_ := eq_of_beq c83b0; rw [c84b0] at h_; exact h_
    (try (have c83d1 : (js79.toList = t377.toList) = True := eq_true (by simpa using c83d0)))
    have c84b1 : (t383 != 0) = false := bne_eq_false_iff_eq.mpr c84
    clear c84
    by_cases c85 : ((t383 == 0) == (t367 == t371 && (t368 == t372 && (t369 == t373 && (t370.toList == t374.toList))))) = true
    rotate_left
    ·rw [if_neg c85] at H
     exact absurd H (by simp)
    rw [if_pos c85] at H
    have c85b0 : ((t383 == 0) == (t367 == t371 && (t368 == t372 && (t369 == t373 && (t370.toList == t374.toList))))) = true := c85
    have c85d0 : (t367 == t371 && (t368 == t372 && (t369 == t373 && (t370.toList == t374.toList)))) = true := by have h_ := eq_of_beq c85b0; rw [c84b0] at h_; exact h_.symm
    (try (have c85d1 : (t367 = t371 ∧ t368 = t372 ∧ t369 = t373 ∧ t370.toList = t374.toList) = True := eq_true (by simpa using c85d0)))
    (try (have c85d2 : (¬t367 = t371 ∨ ¬t368 = t372 ∨ ¬t369 = t373 ∨ ¬t370.toList = t374.toList) = False := eq_false (by simp [show t367 = t371 ∧ t368 = t372 ∧ t369 = t373 ∧ t370.toList = t374.toList from by simpa using c85d0])))
    (try (have c85b1 : decide ((t383 == 0) = (t367 == t371 && (t368 == t372 && (t369 == t373 && (t370.toList == t374.toList))))) = true := by simpa using c85))
    (try (have c85b2 : ((t383 == 0) == (t367 == t371 && (t368 == t372 && (t369 == t373 && (t370.toList == t374.toList))))) = true := by simpa using c85))
    clear c85
    replace H := bM H
    obtain ⟨t384, A860, H⟩ := H
    replace H : (some t384) = some r := H
    have A86 := Aside0.mk A860
    clear A860
    obtain rfl := Option.some.inj H
    have hnb87 := NB366_364.out
    have hnc87 := NB364_366.out
    have hnb88 := NB366_365.out
    have hnc88 := NB365_366.out
    obtain ⟨hcz89_0, hcz89_1⟩ := zc2 BK366
    obtain ⟨hfz89_0, hfz89_1⟩ := zf2 BK366
    have hnb90 := NB364_365.out
    have hnc90 := NB365_364.out
    obtain ⟨hcz91_0, hcz91_1, hcz91_2, hcz91_3⟩ := zc4 BK364
    obtain ⟨hfz91_0, hfz91_1, hfz91_2, hfz91_3⟩ := zf4 BK364
    obtain ⟨hcz92_0, hcz92_1, hcz92_2, hcz92_3⟩ := zc4 BK365
    obtain ⟨hfz92_0, hfz92_1, hfz92_2, hfz92_3⟩ := zf4 BK365
    go_wp2_with (first | (go_at_call 17; (with_reducible refine (col_Compare.calls kj7 t367 t368 t369 t370 t371 t372 t373 t374 t383 _ A80.out).mono ?_); rintro e w93 ⟨rfl, hb⟩; replace BK364 := bb BK364 hb; replace BK365 := bb BK365 hb; replace BK366 := bb BK366 hb; replace HB := as_ (below_step bA hb); (try clear hb); (try clear hb2); (try clear hk); (try clear hi); obtain ⟨hcz94_0, hcz94_1, hcz94_2, hcz94_3⟩ := zc4 BK364; obtain ⟨hfz94_0, hfz94_1, hfz94_2, hfz94_3⟩ := zf4 BK364; obtain ⟨hcz95_0, hcz95_1, hcz95_2, hcz95_3⟩ := zc4 BK365; obtain ⟨hfz95_0, hfz95_1, hfz95_2, hfz95_3⟩ := zf4 BK365) | (go_at_call 19; (with_reducible refine (withylaw03_fixed.calls kj7  t384 _ A86.out).mono ?_); rintro e w96 ⟨rfl, hb⟩; replace BK364 := bb BK364 hb; replace BK365 := bb BK365 hb; replace BK366 := bb BK366 hb; replace HB := as_ (below_step bA hb); (try clear hb); (try clear hb2); (try clear hk); (try clear hi)))
    repeat (go_quiet (first | (go_at_call 17; (with_reducible refine (col_Compare.calls kj7 t367 t368 t369 t370 t371 t372 t373 t374 t383 _ A80.out).mono ?_); rintro e w93 ⟨rfl, hb⟩; replace BK364 := bb BK364 hb; replace BK365 := bb BK365 hb; replace BK366 := bb BK366 hb; replace HB := as_ (below_step bA hb); (try clear hb); (try clear hb2); (try clear hk); (try clear hi); obtain ⟨hcz94_0, hcz94_1, hcz94_2, hcz94_3⟩ := zc4 BK364; obtain ⟨hfz94_0, hfz94_1, hfz94_2, hfz94_3⟩ := zf4 BK364; obtain ⟨hcz95_0, hcz95_1, hcz95_2, hcz95_3⟩ := zc4 BK365; obtain ⟨hfz95_0, hfz95_1, hfz95_2, hfz95_3⟩ := zf4 BK365) | (go_at_call 19; (with_reducible refine (withylaw03_fixed.calls kj7  t384 _ A86.out).mono ?_); rintro e w96 ⟨rfl, hb⟩; replace BK364 := bb BK364 hb; replace BK365 := bb BK365 hb; replace BK366 := bb BK366 hb; replace HB := as_ (below_step bA hb); (try clear hb); (try clear hb2); (try clear hk); (try clear hi))); try go_wp2_with (first | (go_at_call 17; (with_reducible refine (col_Compare.calls kj7 t367 t368 t369 t370 t371 t372 t373 t374 t383 _ A80.out).mono ?_); rintro e w93 ⟨rfl, hb⟩; replace BK364 := bb BK364 hb; replace BK365 := bb BK365 hb; replace BK366 := bb BK366 hb; replace HB := as_ (below_step bA hb); (try clear hb); (try clear hb2); (try clear hk); (try clear hi); obtain ⟨hcz94_0, hcz94_1, hcz94_2, hcz94_3⟩ := zc4 BK364; obtain ⟨hfz94_0, hfz94_1, hfz94_2, hfz94_3⟩ := zf4 BK364; obtain ⟨hcz95_0, hcz95_1, hcz95_2, hcz95_3⟩ := zc4 BK365; obtain ⟨hfz95_0, hfz95_1, hfz95_2, hfz95_3⟩ := zf4 BK365) | (go_at_call 19; (with_reducible refine (withylaw03_fixed.calls kj7  t384 _ A86.out).mono ?_); rintro e w96 ⟨rfl, hb⟩; replace BK364 := bb BK364 hb; replace BK365 := bb BK365 hb; replace BK366 := bb BK366 hb; replace HB := as_ (below_step bA hb); (try clear hb); (try clear hb2); (try clear hk); (try clear hi))))
    go_ret
    exact ⟨by first | rfl | (simp [errW_none, errW_some] <;> rfl) | (simp only [← hji29, ← hjs32, ← hjs34, ← hji35, ← hjs38, ← hjs40, ← hjs44, ← hjs79]; first | rfl | (simp [errW_none, errW_some] <;> rfl)) | (simp [*, errW_none, errW_some] <;> rfl), by repeat (first | (with_reducible first | exact HB.out | apply below_alloc | apply pw_below_drewN | apply below_drew1 | refine below_set ?_ GE364.out | refine below_set ?_ GE365.out | refine below_set ?_ GE366.out) | exact HB.out)⟩
   rw [if_neg c84] at H
   have c84b0 : (t383 == 0) = false := beq_eq_false_iff_ne.mpr c84
   (try (have c82u : decide (t375.toList = t377.toList) = true := by have h_ := c82b0; rw [c84b0] at h_; simpa using h_))
   (try (have c82t : (t375.toList == t377.toList) = true := by have h_ := c82b0; rw [c84b0] at h_; simpa using h_))
   (try (have c82u : decide (t375.toList = t377.toList) = false := by have h_ := c82b0; rw [c84b0] at h_; simpa using h_))
   (try (have c82t : (t375.toList == t377.toList) = false := by have h_ := c82b0; rw [c84b0] at h_; simpa using h_))
   (try (have c85u : decide (t367 == t371 && (t368 == t372 && (t369 == t373 && (t370.toList = t374.toList)))) = true := by have h_ := c85b0; rw [c84b0] at h_; simpa using h_))
   (try (have c85t : (t367 == t371 && (t368 == t372 && (t369 == t373 && (t370.toList == t374.toList)))) = true := by have h_ := c85b0; rw [c84b0] at h_; simpa using h_))
   (try (have c85u : decide (t367 == t371 && (t368 == t372 && (t369 == t373 && (t370.toList = t374.toList)))) = false := by have h_ := c85b0; rw [c84b0] at h_; simpa using h_))
   (try (have c85t : (t367 == t371 && (t368 == t372 && (t369 == t373 && (t370.toList == t374.toList)))) = false := by have h_ := c85b0; rw [c84b0] at h_; simpa using h_))
   have c82d0 : (t375.toList == t377.toList) = false := by have h_ := eq_of_beq c82b0; rw [c84b0] at h_; exact h_.symm
   (try (have c82d1 : (t375.toList = t377.toList) = False := eq_false (by simpa using c82d0)))
   have c83d0 : ((js79).toList == t377.toList) = false := by have h_ := eq_of_beq c83b0; rw [c84b0] at h_; exact h_
   (try (have c83d1 : (js79.toList = t377.toList) = False := eq_false (by simpa using c83d0)))
   have c84b1 : (t383 != 0) = true := bne_iff_ne.mpr c84
   by_cases c97 : ((decide (t383 < 0)) == (Op.bytesLess ((js34).toList) ((js40).toList))) = true
   rotate_left
   ·rw [if_neg c97] at H
    exact absurd H (by simp)
   rw [if_pos c97] at H
   have c97b0 : ((decide (t383 < 0)) == (Op.bytesLess ((js34).toList) ((js40).toList))) = true := c97
   (try (have c97b1 : decide ((decide (t383 < 0)) = (Op.bytesLess ((js34).toList) ((js40).toList))) = true := by simpa using c97))
   (try (have c97b2 : ((decide (t383 < 0)) == (Op.bytesLess ((js34).toList) ((js40).toList))) = true := by simpa using c97))
   clear c97
   by_cases c98 : ((t383 == 0) == (t367 == t371 && (t368 == t372 && (t369 == t373 && (t370.toList == t374.toList))))) = true
   rotate_left
   ·rw [if_neg c98] at H
    exact absurd H (by simp)
   rw [if_pos c98] at H
   have c98b0 : ((t383 == 0) == (t367 == t371 && (t368 == t372 && (t369 == t373 && (t370.toList == t374.toList))))) = true := c98
   have c98d0 : (t367 == t371 && (t368 == t372 && (t369 == t373 && (t370.toList == t374.toList)))) = false := by have h_ := eq_of_beq c98b0; rw [c84b0] at h_; exact h_.symm
   (try (have c98d1 : (t367 = t371 ∧ t368 = t372 ∧ t369 = t373 ∧ t370.toList = t374.toList) = False := eq_false (by simpa using c98d0)))
   (try (have c98d2 : (¬t367 = t371 ∨ ¬t368 = t372 ∨ ¬t369 = t373 ∨ ¬t370.toList = t374.toList) = True := eq_true (by (have h_ : ¬ (t367 = t371 ∧ t368 = t372 ∧ t369 = t373 ∧ t370.toList = t374.toList) := by simpa using c98d0); simpa [Classical.not_and_iff_not_or_not] using h_)))
   (try (have c98b1 : decide ((t383 == 0) = (t367 == t371 && (t368 == t372 && (t369 == t373 && (t370.toList == t374.toList))))) = true := by simpa using c98))
   (try (have c98b2 : ((t383 == 0) == (t367 == t371 && (t368 == t372 && (t369 == t373 && (t370.toList == t374.toList))))) = true := by simpa using c98))
   clear c98
   replace H := bM H
   obtain ⟨t385, A990, H⟩ := H
   replace H : (some t385) = some r := H
   have A99 := Aside0.mk A990
   clear A990
   obtain rfl := Option.some.inj H
   have hnb100 := NB366_364.out
   have hnc100 := NB364_366.out
   have hnb101 := NB366_365.out
   have hnc101 := NB365_366.out
   obtain ⟨hcz102_0, hcz102_1⟩ := zc2 BK366
   obtain ⟨hfz102_0, hfz102_1⟩ := zf2 BK366
   have hnb103 := NB364_365.out
   have hnc103 := NB365_364.out
   obtain ⟨hcz104_0, hcz104_1, hcz104_2, hcz104_3⟩ := zc4 BK364
   obtain ⟨hfz104_0, hfz104_1, hfz104_2, hfz104_3⟩ := zf4 BK364
   obtain ⟨hcz105_0, hcz105_1, hcz105_2, hcz105_3⟩ := zc4 BK365
   obtain ⟨hfz105_0, hfz105_1, hfz105_2, hfz105_3⟩ := zf4 BK365
   go_wp2_with (first | (go_at_call 17; (with_reducible refine (col_Compare.calls kj7 t367 t368 t369 t370 t371 t372 t373 t374 t383 _ A80.out).mono ?_); rintro e w106 ⟨rfl, hb⟩; replace BK364 := bb BK364 hb; replace BK365 := bb BK365 hb; replace BK366 := bb BK366 hb; replace HB := as_ (below_step bA hb); (try clear hb); (try clear hb2); (try clear hk); (try clear hi); obtain ⟨hcz107_0, hcz107_1, hcz107_2, hcz107_3⟩ := zc4 BK364; obtain ⟨hfz107_0, hfz107_1, hfz107_2, hfz107_3⟩ := zf4 BK364; obtain ⟨hcz108_0, hcz108_1, hcz108_2, hcz108_3⟩ := zc4 BK365; obtain ⟨hfz108_0, hfz108_1, hfz108_2, hfz108_3⟩ := zf4 BK365) | (go_at_call 19; (with_reducible refine (withylaw03_fixed.calls kj7  t385 _ A99.out).mono ?_); rintro e w109 ⟨rfl, hb⟩; replace BK364 := bb BK364 hb; replace BK365 := bb BK365 hb; replace BK366 := bb BK366 hb; replace HB := as_ (below_step bA hb); (try clear hb); (try clear hb2); (try clear hk); (try clear hi)))
   repeat (go_quiet (first | (go_at_call 17; (with_reducible refine (col_Compare.calls kj7 t367 t368 t369 t370 t371 t372 t373 t374 t383 _ A80.out).mono ?_); rintro e w106 ⟨rfl, hb⟩; replace BK364 := bb BK364 hb; replace BK365 := bb BK365 hb; replace BK366 := bb BK366 hb; replace HB := as_ (below_step bA hb); (try clear hb); (try clear hb2); (try clear hk); (try clear hi); obtain ⟨hcz107_0, hcz107_1, hcz107_2, hcz107_3⟩ := zc4 BK364; obtain ⟨hfz107_0, hfz107_1, hfz107_2, hfz107_3⟩ := zf4 BK364; obtain ⟨hcz108_0, hcz108_1, hcz108_2, hcz108_3⟩ := zc4 BK365; obtain ⟨hfz108_0, hfz108_1, hfz108_2, hfz108_3⟩ := zf4 BK365) | (go_at_call 19; (with_reducible refine (withylaw03_fixed.calls kj7  t385 _ A99.out).mono ?_); rintro e w109 ⟨rfl, hb⟩; replace BK364 := bb BK364 hb; replace BK365 := bb BK365 hb; replace BK366 := bb BK366 hb; replace HB := as_ (below_step bA hb); (try clear hb); (try clear hb2); (try clear hk); (try clear hi))); try go_wp2_with (first | (go_at_call 17; (with_reducible refine (col_Compare.calls kj7 t367 t368 t369 t370 t371 t372 t373 t374 t383 _ A80.out).mono ?_); rintro e w106 ⟨rfl, hb⟩; replace BK364 := bb BK364 hb; replace BK365 := bb BK365 hb; replace BK366 := bb BK366 hb; replace HB := as_ (below_step bA hb); (try clear hb); (try clear hb2); (try clear hk); (try clear hi); obtain ⟨hcz107_0, hcz107_1, hcz107_2, hcz107_3⟩ := zc4 BK364; obtain ⟨hfz107_0, hfz107_1, hfz107_2, hfz107_3⟩ := zf4 BK364; obtain ⟨hcz108_0, hcz108_1, hcz108_2, hcz108_3⟩ := zc4 BK365; obtain ⟨hfz108_0, hfz108_1, hfz108_2, hfz108_3⟩ := zf4 BK365) | (go_at_call 19; (with_reducible refine (withylaw03_fixed.calls kj7  t385 _ A99.out).mono ?_); rintro e w109 ⟨rfl, hb⟩; replace BK364 := bb BK364 hb; replace BK365 := bb BK365 hb; replace BK366 := bb BK366 hb; replace HB := as_ (below_step bA hb); (try clear hb); (try clear hb2); (try clear hk); (try clear hi))))
   go_ret
   exact ⟨by first | rfl | (simp [errW_none, errW_some] <;> rfl) | (simp only [← hji29, ← hjs32, ← hjs34, ← hji35, ← hjs38, ← hjs40, ← hjs44, ← hjs79]; first | rfl | (simp [errW_none, errW_some] <;> rfl)) | (simp [*, errW_none, errW_some] <;> rfl), by repeat (first | (with_reducible first | exact HB.out | apply below_alloc | apply pw_below_drewN | apply below_drew1 | refine below_set ?_ GE364.out | refine below_set ?_ GE365.out | refine below_set ?_ GE366.out) | exact HB.out)⟩
end Go.Proofs.YtjfgeppfkhaliaaDoor.P
