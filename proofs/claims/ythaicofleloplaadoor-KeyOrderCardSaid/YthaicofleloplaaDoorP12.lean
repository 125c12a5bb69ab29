/- What is proved here: for functions of the Go text, a Lean function each, and that the call comes to just what it answers. Conditions: as each contract names them. Written by wip/tools/myprint.py, a driver of the print of the kit. -/
import Derived.Test.YthaicofleloplaaDoorP0
import Derived.Test.YthaicofleloplaaDoorP3
import Derived.Test.YthaicofleloplaaDoorP5
import Derived.Test.YthaicofleloplaaDoorP7
import Derived.Test.YthaicofleloplaaDoorP11
import Derived.Test.YthaicofleloplaaDoorWAbbr
namespace Go.Proofs.YthaicofleloplaaDoor.P
open Go.RowKit Go.Proofs.YthaicofleloplaaDoorW.PrintWords Go.Proofs.YthaicofleloplaaDoorW.PrintLast Go.Proofs.YthaicofleloplaaDoorW.PrintMore Go.Proofs.YthaicofleloplaaDoorW.Abbr
-- PACKED
attribute [local go_sem] max2_int min2_int max_two min_two max_three min_three max_four min_four Go.Proofs.YthaicofleloplaaDoorLaws.str_leq Go.Proofs.YthaicofleloplaaDoorLaws.str_gtr Go.Proofs.YthaicofleloplaaDoorLaws.str_geq Go.Proofs.YthaicofleloplaaDoorLaws.max2_str Go.Proofs.YthaicofleloplaaDoorLaws.min2_str   -- for this text's walks alone
set_option linter.unusedVariables false
set_option linter.unusedSimpArgs false

/-! ### withylaw04_KeyOrder: function 4 -/
def withylaw04_KeyOrder.j0 : Nat → List (S51) → List (S51) → ByteArray → ByteArray → Bool → ByteArray → ByteArray → Option (Bool)
 | 0, _, _, _, _, _, _, _ => none
 | k + 1, x0, x1, x7, x9, x34, x291000, x291001 => if x34 = true then ((withylaw04_right.f k x0).bind fun t301 => (if t301 = true then ((withylaw04_right.f k x1).bind fun t302 => (if t302 = true then (none) else ((withylaw04_fixed.f k).bind fun t303 => (some t303)))) else ((withylaw04_fixed.f k).bind fun t304 => (some t304)))) else (if 0 ≤ (mn (x291000.size : Int) 20) then (if (mn (x291000.size : Int) 20) ≤ (x291000.size : Int) then (if x7.size + (x291000.extract 0 ((mn (x291000.size : Int) 20) : Int).toNat).size ≤ 9223372036854775807 then (if 0 ≤ (mn (x291001.size : Int) 20) then (if (mn (x291001.size : Int) 20) ≤ (x291001.size : Int) then (if x9.size + (x291001.extract 0 ((mn (x291001.size : Int) 20) : Int).toNat).size ≤ 9223372036854775807 then (if (x7.size : Int) ≤ (x9.size : Int) then (if 0 ≤ (x7.size : Int) then (if (x9.extract 0 x7.size).toList = x7.toList then ((key_Compare.f k x0 x1).bind fun t305 => (if ((decide (t305 < 0)) == (Op.bytesLess x7.toList x9.toList)) = true then (if ((t305 == 0) == (x7.toList == x9.toList)) = true then (if (true == (t305 == 0)) = true then (if t305 = 0 then ((key_Compare.f k x1 x0).bind fun t306 => (if t306 = (wrap64 (-t305)) then ((withylaw04_fixed.f k).bind fun t307 => (some t307)) else (none))) else (if ((decide (t305 < 0)) == (Op.bytesLess ((x7 ++ (x291000.extract 0 ((mn (x291000.size : Int) 20) : Int).toNat)).toList) ((x9 ++ (x291001.extract 0 ((mn (x291001.size : Int) 20) : Int).toNat)).toList))) = true then ((key_Compare.f k x1 x0).bind fun t308 => (if t308 = (wrap64 (-t305)) then ((withylaw04_fixed.f k).bind fun t309 => (some t309)) else (none))) else (none))) else (none)) else (none)) else (none))) else (if (x9.size : Int) ≤ (x7.size : Int) then (if 0 ≤ (x9.size : Int) then ((key_Compare.f k x0 x1).bind fun t310 => (if ((decide (t310 < 0)) == (Op.bytesLess x7.toList x9.toList)) = true then (if ((t310 == 0) == (x7.toList == x9.toList)) = true then (if (((x7.extract 0 x9.size).toList == x9.toList) == (t310 == 0)) = true then (if t310 = 0 then ((key_Compare.f k x1 x0).bind fun t311 => (if t311 = (wrap64 (-t310)) then ((withylaw04_fixed.f k).bind fun t312 => (some t312)) else (none))) else (if ((decide (t310 < 0)) == (Op.bytesLess ((x7 ++ (x291000.extract 0 ((mn (x291000.size : Int) 20) : Int).toNat)).toList) ((x9 ++ (x291001.extract 0 ((mn (x291001.size : Int) 20) : Int).toNat)).toList))) = true then ((key_Compare.f k x1 x0).bind fun t313 => (if t313 = (wrap64 (-t310)) then ((withylaw04_fixed.f k).bind fun t314 => (some t314)) else (none))) else (none))) else (none)) else (none)) else (none))) else (none)) else ((key_Compare.f k x0 x1).bind fun t315 => (if ((decide (t315 < 0)) == (Op.bytesLess x7.toList x9.toList)) = true then (if ((t315 == 0) == (x7.toList == x9.toList)) = true then (if (false == (t315 == 0)) = true then (if t315 = 0 then ((key_Compare.f k x1 x0).bind fun t316 => (if t316 = (wrap64 (-t315)) then ((withylaw04_fixed.f k).bind fun t317 => (some t317)) else (none))) else (if ((decide (t315 < 0)) == (Op.bytesLess ((x7 ++ (x291000.extract 0 ((mn (x291000.size : Int) 20) : Int).toNat)).toList) ((x9 ++ (x291001.extract 0 ((mn (x291001.size : Int) 20) : Int).toNat)).toList))) = true then ((key_Compare.f k x1 x0).bind fun t318 => (if t318 = (wrap64 (-t315)) then ((withylaw04_fixed.f k).bind fun t319 => (some t319)) else (none))) else (none))) else (none)) else (none)) else (none))))) else (none)) else (if (x9.size : Int) ≤ (x7.size : Int) then (if 0 ≤ (x9.size : Int) then ((key_Compare.f k x0 x1).bind fun t320 => (if ((decide (t320 < 0)) == (Op.bytesLess x7.toList x9.toList)) = true then (if ((t320 == 0) == (x7.toList == x9.toList)) = true then (if (((x7.extract 0 x9.size).toList == x9.toList) == (t320 == 0)) = true then (if t320 = 0 then ((key_Compare.f k x1 x0).bind fun t321 => (if t321 = (wrap64 (-t320)) then ((withylaw04_fixed.f k).bind fun t322 => (some t322)) else (none))) else (if ((decide (t320 < 0)) == (Op.bytesLess ((x7 ++ (x291000.extract 0 ((mn (x291000.size : Int) 20) : Int).toNat)).toList) ((x9 ++ (x291001.extract 0 ((mn (x291001.size : Int) 20) : Int).toNat)).toList))) = true then ((key_Compare.f k x1 x0).bind fun t323 => (if t323 = (wrap64 (-t320)) then ((withylaw04_fixed.f k).bind fun t324 => (some t324)) else (none))) else (none))) else (none)) else (none)) else (none))) else (none)) else ((key_Compare.f k x0 x1).bind fun t325 => (if ((decide (t325 < 0)) == (Op.bytesLess x7.toList x9.toList)) = true then (if ((t325 == 0) == (x7.toList == x9.toList)) = true then (if (false == (t325 == 0)) = true then (if t325 = 0 then ((key_Compare.f k x1 x0).bind fun t326 => (if t326 = (wrap64 (-t325)) then ((withylaw04_fixed.f k).bind fun t327 => (some t327)) else (none))) else (if ((decide (t325 < 0)) == (Op.bytesLess ((x7 ++ (x291000.extract 0 ((mn (x291000.size : Int) 20) : Int).toNat)).toList) ((x9 ++ (x291001.extract 0 ((mn (x291001.size : Int) 20) : Int).toNat)).toList))) = true then ((key_Compare.f k x1 x0).bind fun t328 => (if t328 = (wrap64 (-t325)) then ((withylaw04_fixed.f k).bind fun t329 => (some t329)) else (none))) else (none))) else (none)) else (none)) else (none))))) else (none)) else (none)) else (none)) else (none)) else (none)) else (none))
def withylaw04_KeyOrder.f (k : Nat) (l0 : List (S51)) (l1 : List (S51)) (a2_0 : ByteArray) (a2_1 : ByteArray) : Option (Bool) := (withylaw04_Cut.f k l0).bind fun t291 => ((withylaw04_Cut.f k l1).bind fun t294 => ((key_Put.f k t291).bind fun bt297 => ((key_Put.f k t294).bind fun bt299 => (if bt297.2 = 0 then (withylaw04_KeyOrder.j0 k t291 t294 bt297.1 bt299.1 (bt299.2 != 0) a2_0 a2_1) else (withylaw04_KeyOrder.j0 k t291 t294 bt297.1 bt299.1 true a2_0 a2_1)))))
theorem withylaw04_KeyOrder.mono_l : ∀ k, (∀ y0 y1 y2 y3 y4 y5 y6, LeO (withylaw04_KeyOrder.j0 k y0 y1 y2 y3 y4 y5 y6) (withylaw04_KeyOrder.j0 (k + 1) y0 y1 y2 y3 y4 y5 y6))
 | 0 => fun _ _ _ _ _ _ _ r h => by simp [withylaw04_KeyOrder.j0] at h
 | k + 1 => by
  have ih0 := withylaw04_KeyOrder.mono_l k
  ·intro y0 y1 y2 y3 y4 y5 y6
   unfold withylaw04_KeyOrder.j0
   repeat' first
   | (with_reducible exact ih0 _ _ _ _ _ _ _)
   | (with_reducible exact key_Compare.mono _ _ _)
   | (with_reducible exact key_Put.mono _ _)
   | (with_reducible exact withylaw04_Cut.mono _ _)
   | (with_reducible exact withylaw04_fixed.mono _)
   | (with_reducible exact withylaw04_right.mono _ _)
   | (with_reducible exact LeO.refl _)
   | (with_reducible exact LeO.none _)
   | (with_reducible refine LeO.ite ?_ ?_)
   | (with_reducible refine LeO.bind ?_ (fun _ => ?_))
   | exact ih0 _ _ _ _ _ _ _
   | exact key_Compare.mono _ _ _
   | exact key_Put.mono _ _
   | exact withylaw04_Cut.mono _ _
   | exact withylaw04_fixed.mono _
   | exact withylaw04_right.mono _ _
   | exact LeO.none _
   | refine LeO.ite ?_ ?_
   | refine LeO.bind ?_ (fun _ => ?_)
theorem withylaw04_KeyOrder.mono : ∀ a0 a1 a2 a3 k, LeO (withylaw04_KeyOrder.f k a0 a1 a2 a3) (withylaw04_KeyOrder.f (k + 1) a0 a1 a2 a3) := by
 intro a0 a1 a2 a3 k
 have ih0 := withylaw04_KeyOrder.mono_l k
 unfold withylaw04_KeyOrder.f
 repeat' first
   | (with_reducible exact ih0 _ _ _ _ _ _ _)
   | (with_reducible exact key_Compare.mono _ _ _)
   | (with_reducible exact key_Put.mono _ _)
   | (with_reducible exact withylaw04_Cut.mono _ _)
   | (with_reducible exact withylaw04_fixed.mono _)
   | (with_reducible exact withylaw04_right.mono _ _)
   | (with_reducible exact LeO.refl _)
   | (with_reducible exact LeO.none _)
   | (with_reducible refine LeO.ite ?_ ?_)
   | (with_reducible refine LeO.bind ?_ (fun _ => ?_))
   | exact ih0 _ _ _ _ _ _ _
   | exact key_Compare.mono _ _ _
   | exact key_Put.mono _ _
   | exact withylaw04_Cut.mono _ _
   | exact withylaw04_fixed.mono _
   | exact withylaw04_right.mono _ _
   | exact LeO.none _
   | refine LeO.ite ?_ ?_
   | refine LeO.bind ?_ (fun _ => ?_)
set_option maxHeartbeats 8000000 in
set_option maxRecDepth 100000 in
theorem withylaw04_KeyOrder.calls (k : Nat) (A0 : Option Addr) (c0 : Nat) (l0 : List (S51)) (A1 : Option Addr) (c1 : Nat) (l1 : List (S51)) (a2_0 : ByteArray) (a2_1 : ByteArray) (r : Bool) (w : World) (hr0 : Kd.C k51 w A0 l0.length l0) (hc0 : l0.length ≤ c0) (hr1 : Kd.C k51 w A1 l1.length l1) (hc1 : l1.length ≤ c1) (h : withylaw04_KeyOrder.f k l0 l1 a2_0 a2_1 = some r) :
  Calls Tryd.prog 4 #[.slice A0 l0.length c0, .slice A1 l1.length c1, .agg #[.string a2_0, .string a2_1]] w fun e w' => e = .returned (.bool r) ∧ Below w.heap.size w w' := by
 have hu43 := Tryd.underlying43
 have HR0 := Aside0.mk hr0
 have HC0 := Aside0.mk hc0
 clear hr0 hc0
 have HR1 := Aside0.mk hr1
 have HC1 := Aside0.mk hc1
 clear hr1 hc1
 have HB := as_ (Below.refl w.heap.size w)
 have H : ((withylaw04_Cut.f k l0).bind fun t291 => ((withylaw04_Cut.f k l1).bind fun t294 => ((key_Put.f k t291).bind fun bt297 => ((key_Put.f k t294).bind fun bt299 => (if bt297.2 = 0 then (withylaw04_KeyOrder.j0 k t291 t294 bt297.1 bt299.1 (bt299.2 != 0) a2_0 a2_1) else (withylaw04_KeyOrder.j0 k t291 t294 bt297.1 bt299.1 true a2_0 a2_1)))))) = some r := h
 clear h
 replace H := bM H
 obtain ⟨t291, A40, H⟩ := H
 replace H : ((withylaw04_Cut.f k l1).bind fun t294 => ((key_Put.f k t291).bind fun bt297 => ((key_Put.f k t294).bind fun bt299 => (if bt297.2 = 0 then (withylaw04_KeyOrder.j0 k t291 t294 bt297.1 bt299.1 (bt299.2 != 0) a2_0 a2_1) else (withylaw04_KeyOrder.j0 k t291 t294 bt297.1 bt299.1 true a2_0 a2_1))))) = some r := H
 have A4 := Aside0.mk A40
 clear A40
 replace H := bM H
 obtain ⟨t294, A50, H⟩ := H
 replace H : ((key_Put.f k t291).bind fun bt297 => ((key_Put.f k t294).bind fun bt299 => (if bt297.2 = 0 then (withylaw04_KeyOrder.j0 k t291 t294 bt297.1 bt299.1 (bt299.2 != 0) a2_0 a2_1) else (withylaw04_KeyOrder.j0 k t291 t294 bt297.1 bt299.1 true a2_0 a2_1)))) = some r := H
 have A5 := Aside0.mk A50
 clear A50
 replace H := bM H
 obtain ⟨⟨t297, t298⟩, A60, H⟩ := H
 replace H : ((key_Put.f k t294).bind fun bt299 => (if t298 = 0 then (withylaw04_KeyOrder.j0 k t291 t294 t297 bt299.1 (bt299.2 != 0) a2_0 a2_1) else (withylaw04_KeyOrder.j0 k t291 t294 t297 bt299.1 true a2_0 a2_1))) = some r := H
 have A6 := Aside0.mk A60
 clear A60
 replace H := bM H
 obtain ⟨⟨t299, t300⟩, A70, H⟩ := H
 replace H : (if t298 = 0 then (withylaw04_KeyOrder.j0 k t291 t294 t297 t299 (t300 != 0) a2_0 a2_1) else (withylaw04_KeyOrder.j0 k t291 t294 t297 t299 true a2_0 a2_1)) = some r := H
 have A7 := Aside0.mk A70
 clear A70
 have HC8 := Aside0.mk H
 clear H
 go_enter Tryd.func4, Tryd.ntmps4
 (try simp only [List.append_eq, List.cons_append, List.nil_append])
 go_upto_region 5 with (first | ((with_reducible refine gate_dst (N := 5) rfl ?_); (try (refine gate_guard (by rfl) ?_; dsimp only)); refine box_event (by rfl) (N := 5) (by rfl) (cs := #[.string a2_0, .string a2_1]) (t := 43) gS ?_; intro gb290 hg w9 hbox hb; have BK290 := as_ (hbox); have GW290 := gw hg bA; have GE290 := gw hg bA; replace HB := as_ (below_step bA hb); clear hb hbox hg) | (go_at_call 9; (with_reducible refine (withylaw04_Cut.calls k _ _ l0 t291 _ ?side1 ?side2 A4.out).mono ?_); (case side1 => repeat (first | exact (Kd.C_below HR0.out HB.out) | (with_reducible refine Kd.C_alloc ?_ _) | (with_reducible refine Kd.C_drewN ?_ _) | (with_reducible refine Kd.C_drew ?_))); (case side2 => exact HC0.out); rintro e w10 ⟨v292, rfl, ho0, hb⟩; have HO293 := as_ (Kd.R_lower ho0 (below_size bA)); replace BK290 := bb BK290 hb; replace HB := as_ (below_step bA hb); (try clear hb); (try clear hb2); (try clear hk); (try clear hi); (try clear ho0)) | (go_at_call 9; (with_reducible refine (withylaw04_Cut.calls k _ _ l1 t294 _ ?side1 ?side2 A5.out).mono ?_); (case side1 => repeat (first | exact (Kd.C_below HR1.out HB.out) | (with_reducible refine Kd.C_alloc ?_ _) | (with_reducible refine Kd.C_drewN ?_ _) | (with_reducible refine Kd.C_drew ?_))); (case side2 => exact HC1.out); rintro e w11 ⟨v295, rfl, ho0, hb⟩; have HO296 := as_ (Kd.R_lower (Kd.R_new' ho0 (Kd.R_lt (by (with_reducible repeat (first | apply Kd.R_alloc | apply Kd.R_drewN | apply Kd.R_drew)); exact HO293.out))) (below_size bA)); replace HO293 := as_ (Kd.R_elder' (by (with_reducible repeat (first | apply Kd.R_alloc | apply Kd.R_drewN | apply Kd.R_drew)); exact HO293.out) (Kd.R_base ho0) hb); replace BK290 := bb BK290 hb; replace HB := as_ (below_step bA hb); (try clear hb); (try clear hb2); (try clear hk); (try clear hi); (try clear ho0); obtain ⟨Ao12, co12, eo12⟩ := Kd.R_slice HO293.out; subst eo12) | (go_at_call 10; (with_reducible refine (key_Put.calls k _ _ t291 t297 t298 _ ?side1 ?side2 A6.out).mono ?_); (case side1 => repeat (first | exact (Kd.R_reads' HO293.out).2.2 | (with_reducible refine Kd.C_alloc ?_ _) | (with_reducible refine Kd.C_drewN ?_ _) | (with_reducible refine Kd.C_drew ?_))); (case side2 => exact (Kd.R_reads' HO293.out).2.1); rintro e w13 ⟨rfl, hb⟩; clear A6; replace HO293 := as_ (Kd.R_below (by (with_reducible repeat (first | apply Kd.R_alloc | apply Kd.R_drewN | apply Kd.R_drew)); exact HO293.out) hb); replace HO296 := as_ (Kd.R_below (by (with_reducible repeat (first | apply Kd.R_alloc | apply Kd.R_drewN | apply Kd.R_drew)); exact HO296.out) hb); replace BK290 := bb BK290 hb; replace HB := as_ (below_step bA hb); (try clear hb); (try clear hb2); (try clear hk); (try clear hi); obtain ⟨Ao14, co14, eo14⟩ := Kd.R_slice HO296.out; subst eo14) | (go_at_call 10; (with_reducible refine (key_Put.calls k _ _ t294 t299 t300 _ ?side1 ?side2 A7.out).mono ?_); (case side1 => repeat (first | exact (Kd.R_reads' HO296.out).2.2 | (with_reducible refine Kd.C_alloc ?_ _) | (with_reducible refine Kd.C_drewN ?_ _) | (with_reducible refine Kd.C_drew ?_))); (case side2 => exact (Kd.R_reads' HO296.out).2.1); rintro e w15 ⟨rfl, hb⟩; clear A7; replace HO293 := as_ (Kd.R_below (by (with_reducible repeat (first | apply Kd.R_alloc | apply Kd.R_drewN | apply Kd.R_drew)); exact HO293.out) hb); replace HO296 := as_ (Kd.R_below (by (with_reducible repeat (first | apply Kd.R_alloc | apply Kd.R_drewN | apply Kd.R_drew)); exact HO296.out) hb); replace BK290 := bb BK290 hb; replace HB := as_ (below_step bA hb); (try clear hb); (try clear hb2); (try clear hk); (try clear hi)))
 repeat (go_quiet (first | ((with_reducible refine gate_dst (N := 5) rfl ?_); (try (refine gate_guard (by rfl) ?_; dsimp only)); refine box_event (by rfl) (N := 5) (by rfl) (cs := #[.string a2_0, .string a2_1]) (t := 43) gS ?_; intro gb290 hg w9 hbox hb; have BK290 := as_ (hbox); have GW290 := gw hg bA; have GE290 := gw hg bA; replace HB := as_ (below_step bA hb); clear hb hbox hg) | (go_at_call 9; (with_reducible refine (withylaw04_Cut.calls k _ _ l0 t291 _ ?side1 ?side2 A4.out).mono ?_); (case side1 => repeat (first | exact (Kd.C_below HR0.out HB.out) | (with_reducible refine Kd.C_alloc ?_ _) | (with_reducible refine Kd.C_drewN ?_ _) | (with_reducible refine Kd.C_drew ?_))); (case side2 => exact HC0.out); rintro e w10 ⟨v292, rfl, ho0, hb⟩; have HO293 := as_ (Kd.R_lower ho0 (below_size bA)); replace BK290 := bb BK290 hb; replace HB := as_ (below_step bA hb); (try clear hb); (try clear hb2); (try clear hk); (try clear hi); (try clear ho0)) | (go_at_call 9; (with_reducible refine (withylaw04_Cut.calls k _ _ l1 t294 _ ?side1 ?side2 A5.out).mono ?_); (case side1 => repeat (first | exact (Kd.C_below HR1.out HB.out) | (with_reducible refine Kd.C_alloc ?_ _) | (with_reducible refine Kd.C_drewN ?_ _) | (with_reducible refine Kd.C_drew ?_))); (case side2 => exact HC1.out); rintro e w11 ⟨v295, rfl, ho0, hb⟩; have HO296 := as_ (Kd.R_lower (Kd.R_new' ho0 (Kd.R_lt (by (with_reducible repeat (first | apply Kd.R_alloc | apply Kd.R_drewN | apply Kd.R_drew)); exact HO293.out))) (below_size bA)); replace HO293 := as_ (Kd.R_elder' (by (with_reducible repeat (first | apply Kd.R_alloc | apply Kd.R_drewN | apply Kd.R_drew)); exact HO293.out) (Kd.R_base ho0) hb); replace BK290 := bb BK290 hb; replace HB := as_ (below_step bA hb); (try clear hb); (try clear hb2); (try clear hk); (try clear hi); (try clear ho0); obtain ⟨Ao12, co12, eo12⟩ := Kd.R_slice HO293.out; subst eo12) | (go_at_call 10; (with_reducible refine (key_Put.calls k _ _ t291 t297 t298 _ ?side1 ?side2 A6.out).mono ?_); (case side1 => repeat (first | exact (Kd.R_reads' HO293.out).2.2 | (with_reducible refine Kd.C_alloc ?_ _) | (with_reducible refine Kd.C_drewN ?_ _) | (with_reducible refine Kd.C_drew ?_))); (case side2 => exact (Kd.R_reads' HO293.out).2.1); rintro e w13 ⟨rfl, hb⟩; clear A6; replace HO293 := as_ (Kd.R_below (by (with_reducible repeat (first | apply Kd.R_alloc | apply Kd.R_drewN | apply Kd.R_drew)); exact HO293.out) hb); replace HO296 := as_ (Kd.R_below (by (with_reducible repeat (first | apply Kd.R_alloc | apply Kd.R_drewN | apply Kd.R_drew)); exact HO296.out) hb); replace BK290 := bb BK290 hb; replace HB := as_ (below_step bA hb); (try clear hb); (try clear hb2); (try clear hk); (try clear hi); obtain ⟨Ao14, co14, eo14⟩ := Kd.R_slice HO296.out; subst eo14) | (go_at_call 10; (with_reducible refine (key_Put.calls k _ _ t294 t299 t300 _ ?side1 ?side2 A7.out).mono ?_); (case side1 => repeat (first | exact (Kd.R_reads' HO296.out).2.2 | (with_reducible refine Kd.C_alloc ?_ _) | (with_reducible refine Kd.C_drewN ?_ _) | (with_reducible refine Kd.C_drew ?_))); (case side2 => exact (Kd.R_reads' HO296.out).2.1); rintro e w15 ⟨rfl, hb⟩; clear A7; replace HO293 := as_ (Kd.R_below (by (with_reducible repeat (first | apply Kd.R_alloc | apply Kd.R_drewN | apply Kd.R_drew)); exact HO293.out) hb); replace HO296 := as_ (Kd.R_below (by (with_reducible repeat (first | apply Kd.R_alloc | apply Kd.R_drewN | apply Kd.R_drew)); exact HO296.out) hb); replace BK290 := bb BK290 hb; replace HB := as_ (below_step bA hb); (try clear hb); (try clear hb2); (try clear hk); (try clear hi))); go_upto_region 5 with (first | ((with_reducible refine gate_dst (N := 5) rfl ?_); (try (refine gate_guard (by rfl) ?_; dsimp only)); refine box_event (by rfl) (N := 5) (by rfl) (cs := #[.string a2_0, .string a2_1]) (t := 43) gS ?_; intro gb290 hg w9 hbox hb; have BK290 := as_ (hbox); have GW290 := gw hg bA; have GE290 := gw hg bA; replace HB := as_ (below_step bA hb); clear hb hbox hg) | (go_at_call 9; (with_reducible refine (withylaw04_Cut.calls k _ _ l0 t291 _ ?side1 ?side2 A4.out).mono ?_); (case side1 => repeat (first | exact (Kd.C_below HR0.out HB.out) | (with_reducible refine Kd.C_alloc ?_ _) | (with_reducible refine Kd.C_drewN ?_ _) | (with_reducible refine Kd.C_drew ?_))); (case side2 => exact HC0.out); rintro e w10 ⟨v292, rfl, ho0, hb⟩; have HO293 := as_ (Kd.R_lower ho0 (below_size bA)); replace BK290 := bb BK290 hb; replace HB := as_ (below_step bA hb); (try clear hb); (try clear hb2); (try clear hk); (try clear hi); (try clear ho0)) | (go_at_call 9; (with_reducible refine (withylaw04_Cut.calls k _ _ l1 t294 _ ?side1 ?side2 A5.out).mono ?_); (case side1 => repeat (first | exact (Kd.C_below HR1.out HB.out) | (with_reducible refine Kd.C_alloc ?_ _) | (with_reducible refine Kd.C_drewN ?_ _) | (with_reducible refine Kd.C_drew ?_))); (case side2 => exact HC1.out); rintro e w11 ⟨v295, rfl, ho0, hb⟩; have HO296 := as_ (Kd.R_lower (Kd.R_new' ho0 (Kd.R_lt (by (with_reducible repeat (first | apply Kd.R_alloc | apply Kd.R_drewN | apply Kd.R_drew)); exact HO293.out))) (below_size bA)); replace HO293 := as_ (Kd.R_elder' (by (with_reducible repeat (first | apply Kd.R_alloc | apply Kd.R_drewN | apply Kd.R_drew)); exact HO293.out) (Kd.R_base ho0) hb); replace BK290 := bb BK290 hb; replace HB := as_ (below_step bA hb); (try clear hb); (try clear hb2); (try clear hk); (try clear hi); (try clear ho0); obtain ⟨Ao12, co12, eo12⟩ := Kd.R_slice HO293.out; subst eo12) | (go_at_call 10; (with_reducible refine (key_Put.calls k _ _ t291 t297 t298 _ ?side1 ?side2 A6.out).mono ?_); (case side1 => repeat (first | exact (Kd.R_reads' HO293.out).2.2 | (with_reducible refine Kd.C_alloc ?_ _) | (with_reducible refine Kd.C_drewN ?_ _) | (with_reducible refine Kd.C_drew ?_))); (case side2 => exact (Kd.R_reads' HO293.out).2.1); rintro e w13 ⟨rfl, hb⟩; clear A6; replace HO293 := as_ (Kd.R_below (by (with_reducible repeat (first | apply Kd.R_alloc | apply Kd.R_drewN | apply Kd.R_drew)); exact HO293.out) hb); replace HO296 := as_ (Kd.R_below (by (with_reducible repeat (first | apply Kd.R_alloc | apply Kd.R_drewN | apply Kd.R_drew)); exact HO296.out) hb); replace BK290 := bb BK290 hb; replace HB := as_ (below_step bA hb); (try clear hb); (try clear hb2); (try clear hk); (try clear hi); obtain ⟨Ao14, co14, eo14⟩ := Kd.R_slice HO296.out; subst eo14) | (go_at_call 10; (with_reducible refine (key_Put.calls k _ _ t294 t299 t300 _ ?side1 ?side2 A7.out).mono ?_); (case side1 => repeat (first | exact (Kd.R_reads' HO296.out).2.2 | (with_reducible refine Kd.C_alloc ?_ _) | (with_reducible refine Kd.C_drewN ?_ _) | (with_reducible refine Kd.C_drew ?_))); (case side2 => exact (Kd.R_reads' HO296.out).2.1); rintro e w15 ⟨rfl, hb⟩; clear A7; replace HO293 := as_ (Kd.R_below (by (with_reducible repeat (first | apply Kd.R_alloc | apply Kd.R_drewN | apply Kd.R_drew)); exact HO293.out) hb); replace HO296 := as_ (Kd.R_below (by (with_reducible repeat (first | apply Kd.R_alloc | apply Kd.R_drewN | apply Kd.R_drew)); exact HO296.out) hb); replace BK290 := bb BK290 hb; replace HB := as_ (below_step bA hb); (try clear hb); (try clear hb2); (try clear hk); (try clear hi))))
 (try simp only [Act.put, List.setIfInBounds_toArray, List.set_cons_zero, List.set_cons_succ])
 go_cut [34] (fun v34 wc => ∃ (kq : Nat) (x34_7 : Bool), v34 = .bool x34_7 ∧ Aside0 (withylaw04_KeyOrder.j0 kq t291 t294 t297 t299 x34_7 a2_0 a2_1 = some r) ∧ Aside0 (kq ≤ k) ∧ Aside0 (Kd.R k51 51 wc w.heap.size (fun k_ => some k_ ≠ ((.slice Ao14 t294.length co14) : Value).ownBlock) (.slice Ao12 t291.length co12) t291) ∧ Aside0 (Kd.R k51 51 wc w.heap.size (fun k_ => some k_ ≠ ((.slice Ao12 t291.length co12) : Value).ownBlock) (.slice Ao14 t294.length co14) t294) ∧ Aside0 (wc.heap[gb290]? = some (.cells #[.string a2_0, .string a2_1] 43 (0, 0))) ∧ Aside0 (Below w.heap.size w wc))
 case first =>
  have H := HC8.out
  clear HC8
  by_cases c16 : t298 = 0
  rotate_left
  ·rw [if_neg c16] at H
   have c16b0 : (t298 == 0) = false := beq_eq_false_iff_ne.mpr c16
   have c16b1 : (t298 != 0) = true := bne_iff_ne.mpr c16
   (first | rw [c16b0] | (simp only [i64_w, i32_w]; rw [c16b0]) | rw [c16b1] | skip)
   have H' := Aside0.mk H
   clear H
   go_wp2
   repeat (go_quiet (fail); try go_wp2)
   go_meet
   case rel => exact ⟨_, (true), (by first | rfl | (simp; done) | (simp [*]; done)), H', ⟨by first | omega | exact Nat.le_refl _⟩, ⟨by (with_reducible repeat (first | apply Kd.R_alloc | apply Kd.R_drewN | apply Kd.R_drew)); exact Kd.R_mono HO293.out (fun _ hk => hk.2)⟩, ⟨by (with_reducible repeat (first | apply Kd.R_alloc | apply Kd.R_drewN | apply Kd.R_drew)); exact Kd.R_mono HO296.out (fun _ hk => hk.2)⟩, ⟨by refine bx ?_; exact BK290.out⟩, ⟨by repeat (first | (with_reducible first | exact HB.out | apply below_alloc | apply pw_below_drewN | apply below_drew1 | refine below_set ?_ GE290.out) | exact HB.out)⟩⟩
  rw [if_pos c16] at H
  have c16b0 : (t298 == 0) = true := beq_iff_eq.mpr c16
  have c16b1 : (t298 != 0) = false := bne_eq_false_iff_eq.mpr c16
  clear c16
  (first | rw [c16b0] | (simp only [i64_w, i32_w]; rw [c16b0]) | rw [c16b1] | skip)
  have H' := Aside0.mk H
  clear H
  go_wp2
  repeat (go_quiet (fail); try go_wp2)
  go_meet
  case rel => exact ⟨_, ((t300 != 0)), (by first | rfl | (simp; done) | (simp [*]; done)), H', ⟨by first | omega | exact Nat.le_refl _⟩, ⟨by (with_reducible repeat (first | apply Kd.R_alloc | apply Kd.R_drewN | apply Kd.R_drew)); exact Kd.R_mono HO293.out (fun _ hk => hk.2)⟩, ⟨by (with_reducible repeat (first | apply Kd.R_alloc | apply Kd.R_drewN | apply Kd.R_drew)); exact Kd.R_mono HO296.out (fun _ hk => hk.2)⟩, ⟨by refine bx ?_; exact BK290.out⟩, ⟨by repeat (first | (with_reducible first | exact HB.out | apply below_alloc | apply pw_below_drewN | apply below_drew1 | refine below_set ?_ GE290.out) | exact HB.out)⟩⟩
 case rest =>
  clear HC8
  try clear c1
  try clear p2
  try clear c4
  try clear c16
  try clear c16b0
  try clear c16b1
  obtain ⟨kq, x34_7, rfl, HA, HJ7, HO_0, HO_1, BK290, HB⟩ := hcut
  cases kq with
  | zero => exact absurd HA.out (by simp [withylaw04_KeyOrder.j0])
  | succ kj7 =>
   have H := HA.out
   clear HA
   simp only [withylaw04_KeyOrder.j0] at H
   by_cases c17 : x34_7 = true
   ·subst c17
    have H1 : ((withylaw04_right.f kj7 t291).bind fun t301 => (if t301 = true then ((withylaw04_right.f kj7 t294).bind fun t302 => (if t302 = true then (none) else ((withylaw04_fixed.f kj7).bind fun t303 => (some t303)))) else ((withylaw04_fixed.f kj7).bind fun t304 => (some t304)))) = some r := by rw [if_pos rfl] at H; exact H
    clear H
    have H := H1
    clear H1
    replace H := bM H
    obtain ⟨t301, A180, H⟩ := H
    replace H : (if t301 = true then ((withylaw04_right.f kj7 t294).bind fun t302 => (if t302 = true then (none) else ((withylaw04_fixed.f kj7).bind fun t303 => (some t303)))) else ((withylaw04_fixed.f kj7).bind fun t304 => (some t304))) = some r := H
    have A18 := Aside0.mk A180
    clear A180
    by_cases c19 : t301 = true
    rotate_left
    ·replace c19 := Bool.eq_false_iff.mpr c19
     subst c19
     have H1 : ((withylaw04_fixed.f kj7).bind fun t304 => (some t304)) = some r := by rw [if_neg (show ¬ (false = true) by decide)] at H; exact H
     clear H
     have H := H1
     clear H1
     replace H := bM H
     obtain ⟨t304, A260, H⟩ := H
     replace H : (some t304) = some r := H
     have A26 := Aside0.mk A260
     clear A260
     obtain rfl := Option.some.inj H
     go_wp2_with (first | (go_at_call 17; (with_reducible refine (withylaw04_right.calls kj7 _ _ t291 false _ ?side1 ?side2 A18.out).mono ?_); (case side1 => repeat (first | exact (Kd.R_reads' HO_0.out).2.2 | (with_reducible refine Kd.C_alloc ?_ _) | (with_reducible refine Kd.C_drewN ?_ _) | (with_reducible refine Kd.C_drew ?_))); (case side2 => exact (Kd.R_reads' HO_0.out).2.1); rintro e w27 ⟨rfl, hb⟩; replace HO_0 := as_ (Kd.R_below (by (with_reducible repeat (first | apply Kd.R_alloc | apply Kd.R_drewN | apply Kd.R_drew)); exact HO_0.out) hb); replace HO_1 := as_ (Kd.R_below (by (with_reducible repeat (first | apply Kd.R_alloc | apply Kd.R_drewN | apply Kd.R_drew)); exact HO_1.out) hb); replace BK290 := bb BK290 hb; replace HB := as_ (below_step bA hb); (try clear hb); (try clear hb2); (try clear hk); (try clear hi)) | (go_at_call 21; (with_reducible refine (withylaw04_fixed.calls kj7  t304 _ A26.out).mono ?_); rintro e w28 ⟨rfl, hb⟩; replace HO_0 := as_ (Kd.R_below (by (with_reducible repeat (first | apply Kd.R_alloc | apply Kd.R_drewN | apply Kd.R_drew)); exact HO_0.out) hb); replace HO_1 := as_ (Kd.R_below (by (with_reducible repeat (first | apply Kd.R_alloc | apply Kd.R_drewN | apply Kd.R_drew)); exact HO_1.out) hb); replace BK290 := bb BK290 hb; replace HB := as_ (below_step bA hb); (try clear hb); (try clear hb2); (try clear hk); (try clear hi)))
     repeat (go_quiet (first | (go_at_call 17; (with_reducible refine (withylaw04_right.calls kj7 _ _ t291 false _ ?side1 ?side2 A18.out).mono ?_); (case side1 => repeat (first | exact (Kd.R_reads' HO_0.out).2.2 | (with_reducible refine Kd.C_alloc ?_ _) | (with_reducible refine Kd.C_drewN ?_ _) | (with_reducible refine Kd.C_drew ?_))); (case side2 => exact (Kd.R_reads' HO_0.out).2.1); rintro e w27 ⟨rfl, hb⟩; replace HO_0 := as_ (Kd.R_below (by (with_reducible repeat (first | apply Kd.R_alloc | apply Kd.R_drewN | apply Kd.R_drew)); exact HO_0.out) hb); replace HO_1 := as_ (Kd.R_below (by (with_reducible repeat (first | apply Kd.R_alloc | apply Kd.R_drewN | apply Kd.R_drew)); exact HO_1.out) hb); replace BK290 := bb BK290 hb; replace HB := as_ (below_step bA hb); (try clear hb); (try clear hb2); (try clear hk); (try clear hi)) | (go_at_call 21; (with_reducible refine (withylaw04_fixed.calls kj7  t304 _ A26.out).mono ?_); rintro e w28 ⟨rfl, hb⟩; replace HO_0 := as_ (Kd.R_below (by (with_reducible repeat (first | apply Kd.R_alloc | apply Kd.R_drewN | apply Kd.R_drew)); exact HO_0.out) hb); replace HO_1 := as_ (Kd.R_below (by (with_reducible repeat (first | apply Kd.R_alloc | apply Kd.R_drewN | apply Kd.R_drew)); exact HO_1.out) hb); replace BK290 := bb BK290 hb; replace HB := as_ (below_step bA hb); (try clear hb); (try clear hb2); (try clear hk); (try clear hi))); try go_wp2_with (first | (go_at_call 17; (with_reducible refine (withylaw04_right.calls kj7 _ _ t291 false _ ?side1 ?side2 A18.out).mono ?_); (case side1 => repeat (first | exact (Kd.R_reads' HO_0.out).2.2 | (with_reducible refine Kd.C_alloc ?_ _) | (with_reducible refine Kd.C_drewN ?_ _) | (with_reducible refine Kd.C_drew ?_))); (case side2 => exact (Kd.R_reads' HO_0.out).2.1); rintro e w27 ⟨rfl, hb⟩; replace HO_0 := as_ (Kd.R_below (by (with_reducible repeat (first | apply Kd.R_alloc | apply Kd.R_drewN | apply Kd.R_drew)); exact HO_0.out) hb); replace HO_1 := as_ (Kd.R_below (by (with_reducible repeat (first | apply Kd.R_alloc | apply Kd.R_drewN | apply Kd.R_drew)); exact HO_1.out) hb); replace BK290 := bb BK290 hb; replace HB := as_ (below_step bA hb); (try clear hb); (try clear hb2); (try clear hk); (try clear hi)) | (go_at_call 21; (with_reducible refine (withylaw04_fixed.calls kj7  t304 _ A26.out).mono ?_); rintro e w28 ⟨rfl, hb⟩; replace HO_0 := as_ (Kd.R_below (by (with_reducible repeat (first | apply Kd.R_alloc | apply Kd.R_drewN | apply Kd.R_drew)); exact HO_0.out) hb); replace HO_1 := as_ (Kd.R_below (by (with_reducible repeat (first | apply Kd.R_alloc | apply Kd.R_drewN | apply Kd.R_drew)); exact HO_1.out) hb); replace BK290 := bb BK290 hb; replace HB := as_ (below_step bA hb); (try clear hb); (try clear hb2); (try clear hk); (try clear hi))))
     go_ret
     exact ⟨eW, by repeat (first | (with_reducible first | exact HB.out | apply below_alloc | apply pw_below_drewN | apply below_drew1 | refine below_set ?_ GE290.out) | exact HB.out)⟩
    subst c19
    have H1 : ((withylaw04_right.f kj7 t294).bind fun t302 => (if t302 = true then (none) else ((withylaw04_fixed.f kj7).bind fun t303 => (some t303)))) = some r := by rw [if_pos rfl] at H; exact H
    clear H
    have H := H1
    clear H1
    replace H := bM H
    obtain ⟨t302, A200, H⟩ := H
    replace H : (if t302 = true then (none) else ((withylaw04_fixed.f kj7).bind fun t303 => (some t303))) = some r := H
    have A20 := Aside0.mk A200
    clear A200
    by_cases c21 : t302 = true
    ·subst c21
     have H1 : (none) = some r := by rw [if_pos rfl] at H; exact H
     clear H
     have H := H1
     clear H1
     exact absurd H (by simp)
    replace c21 := Bool.eq_false_iff.mpr c21
    subst c21
    have H1 : ((withylaw04_fixed.f kj7).bind fun t303 => (some t303)) = some r := by rw [if_neg (show ¬ (false = true) by decide)] at H; exact H
    clear H
    have H := H1
    clear H1
    replace H := bM H
    obtain ⟨t303, A220, H⟩ := H
    replace H : (some t303) = some r := H
    have A22 := Aside0.mk A220
    clear A220
    obtain rfl := Option.some.inj H
    go_wp2_with (first | (go_at_call 17; (with_reducible refine (withylaw04_right.calls kj7 _ _ t291 true _ ?side1 ?side2 A18.out).mono ?_); (case side1 => repeat (first | exact (Kd.R_reads' HO_0.out).2.2 | (with_reducible refine Kd.C_alloc ?_ _) | (with_reducible refine Kd.C_drewN ?_ _) | (with_reducible refine Kd.C_drew ?_))); (case side2 => exact (Kd.R_reads' HO_0.out).2.1); rintro e w23 ⟨rfl, hb⟩; replace HO_0 := as_ (Kd.R_below (by (with_reducible repeat (first | apply Kd.R_alloc | apply Kd.R_drewN | apply Kd.R_drew)); exact HO_0.out) hb); replace HO_1 := as_ (Kd.R_below (by (with_reducible repeat (first | apply Kd.R_alloc | apply Kd.R_drewN | apply Kd.R_drew)); exact HO_1.out) hb); replace BK290 := bb BK290 hb; replace HB := as_ (below_step bA hb); (try clear hb); (try clear hb2); (try clear hk); (try clear hi)) | (go_at_call 17; (with_reducible refine (withylaw04_right.calls kj7 _ _ t294 false _ ?side1 ?side2 A20.out).mono ?_); (case side1 => repeat (first | exact (Kd.R_reads' HO_1.out).2.2 | (with_reducible refine Kd.C_alloc ?_ _) | (with_reducible refine Kd.C_drewN ?_ _) | (with_reducible refine Kd.C_drew ?_))); (case side2 => exact (Kd.R_reads' HO_1.out).2.1); rintro e w24 ⟨rfl, hb⟩; replace HO_0 := as_ (Kd.R_below (by (with_reducible repeat (first | apply Kd.R_alloc | apply Kd.R_drewN | apply Kd.R_drew)); exact HO_0.out) hb); replace HO_1 := as_ (Kd.R_below (by (with_reducible repeat (first | apply Kd.R_alloc | apply Kd.R_drewN | apply Kd.R_drew)); exact HO_1.out) hb); replace BK290 := bb BK290 hb; replace HB := as_ (below_step bA hb); (try clear hb); (try clear hb2); (try clear hk); (try clear hi)) | (go_at_call 21; (with_reducible refine (withylaw04_fixed.calls kj7  t303 _ A22.out).mono ?_); rintro e w25 ⟨rfl, hb⟩; replace HO_0 := as_ (Kd.R_below (by (with_reducible repeat (first | apply Kd.R_alloc | apply Kd.R_drewN | apply Kd.R_drew)); exact HO_0.out) hb); replace HO_1 := as_ (Kd.R_below (by (with_reducible repeat (first | apply Kd.R_alloc | apply Kd.R_drewN | apply Kd.R_drew)); exact HO_1.out) hb); replace BK290 := bb BK290 hb; replace HB := as_ (below_step bA hb); (try clear hb); (try clear hb2); (try clear hk); (try clear hi)))
    repeat (go_quiet (first | (go_at_call 17; (with_reducible refine (withylaw04_right.calls kj7 _ _ t291 true _ ?side1 ?side2 A18.out).mono ?_); (case side1 => repeat (first | exact (Kd.R_reads' HO_0.out).2.2 | (with_reducible refine Kd.C_alloc ?_ _) | (with_reducible refine Kd.C_drewN ?_ _) | (with_reducible refine Kd.C_drew ?_))); (case side2 => exact (Kd.R_reads' HO_0.out).2.1); rintro e w23 ⟨rfl, hb⟩; replace HO_0 := as_ (Kd.R_below (by (with_reducible repeat (first | apply Kd.R_alloc | apply Kd.R_drewN | apply Kd.R_drew)); exact HO_0.out) hb); replace HO_1 := as_ (Kd.R_below (by (with_reducible repeat (first | apply Kd.R_alloc | apply Kd.R_drewN | apply Kd.R_drew)); exact HO_1.out) hb); replace BK290 := bb BK290 hb; replace HB := as_ (below_step bA hb); (try clear hb); (try clear hb2); (try clear hk); (try clear hi)) | (go_at_call 17; (with_reducible refine (withylaw04_right.calls kj7 _ _ t294 false _ ?side1 ?side2 A20.out).mono ?_); (case side1 => repeat (first | exact (Kd.R_reads' HO_1.out).2.2 | (with_reducible refine Kd.C_alloc ?_ _) | (with_reducible refine Kd.C_drewN ?_ _) | (with_reducible refine Kd.C_drew ?_))); (case side2 => exact (Kd.R_reads' HO_1.out).2.1); rintro e w24 ⟨rfl, hb⟩; replace HO_0 := as_ (Kd.R_below (by (with_reducible repeat (first | apply Kd.R_alloc | apply Kd.R_drewN | apply Kd.R_drew)); exact HO_0.out) hb); replace HO_1 := as_ (Kd.R_below (by (with_reducible repeat (first | apply Kd.R_alloc | apply Kd.R_drewN | apply Kd.R_drew)); exact HO_1.out) hb); replace BK290 := bb BK290 hb; replace HB := as_ (below_step bA hb); (try clear hb); (try clear hb2); (try clear hk); (try clear hi)) | (go_at_call 21; (with_reducible refine (withylaw04_fixed.calls kj7  t303 _ A22.out).mono ?_); rintro e w25 ⟨rfl, hb⟩; replace HO_0 := as_ (Kd.R_below (by (with_reducible repeat (first | apply Kd.R_alloc | apply Kd.R_drewN | apply Kd.R_drew)); exact HO_0.out) hb); replace HO_1 := as_ (Kd.R_below (by (with_reducible repeat (first | apply Kd.R_alloc | apply Kd.R_drewN | apply Kd.R_drew)); exact HO_1.out) hb); replace BK290 := bb BK290 hb; replace HB := as_ (below_step bA hb); (try clear hb); (try clear hb2); (try clear hk); (try clear hi))); try go_wp2_with (first | (go_at_call 17; (with_reducible refine (withylaw04_right.calls kj7 _ _ t291 true _ ?side1 ?side2 A18.out).mono ?_); (case side1 => repeat (first | exact (Kd.R_reads' HO_0.out).2.2 | (with_reducible refine Kd.C_alloc ?_ _) | (with_reducible refine Kd.C_drewN ?_ _) | (with_reducible refine Kd.C_drew ?_))); (case side2 => exact (Kd.R_reads' HO_0.out).2.1); rintro e w23 ⟨rfl, hb⟩; replace HO_0 := as_ (Kd.R_below (by (with_reducible repeat (first | apply Kd.R_alloc | apply Kd.R_drewN | apply Kd.R_drew)); exact HO_0.out) hb); replace HO_1 := as_ (Kd.R_below (by (with_reducible repeat (first | apply Kd.R_alloc | apply Kd.R_drewN | apply Kd.R_drew)); exact HO_1.out) hb); replace BK290 := bb BK290 hb; replace HB := as_ (below_step bA hb); (try clear hb); (try clear hb2); (try clear hk); (try clear hi)) | (go_at_call 17; (with_reducible refine (withylaw04_right.calls kj7 _ _ t294 false _ ?side1 ?side2 A20.out).mono ?_); (case side1 => repeat (first | exact (Kd.R_reads' HO_1.out).2.2 | (with_reducible refine Kd.C_alloc ?_ _) | (with_reducible refine Kd.C_drewN ?_ _) | (with_reducible refine Kd.C_drew ?_))); (case side2 => exact (Kd.R_reads' HO_1.out).2.1); rintro e w24 ⟨rfl, hb⟩; replace HO_0 := as_ (Kd.R_below (by (with_reducible repeat (first | apply Kd.R_alloc | apply Kd.R_drewN | apply Kd.R_drew)); exact HO_0.out) hb); replace HO_1 := as_ (Kd.R_below (by (with_reducible repeat (first | apply Kd.R_alloc | apply Kd.R_drewN | apply Kd.R_drew)); exact HO_1.out) hb); replace BK290 := bb BK290 hb; replace HB := as_ (below_step bA hb); (try clear hb); (try clear hb2); (try clear hk); (try clear hi)) | (go_at_call 21; (with_reducible refine (withylaw04_fixed.calls kj7  t303 _ A22.out).mono ?_); rintro e w25 ⟨rfl, hb⟩; replace HO_0 := as_ (Kd.R_below (by (with_reducible repeat (first | apply Kd.R_alloc | apply Kd.R_drewN | apply Kd.R_drew)); exact HO_0.out) hb); replace HO_1 := as_ (Kd.R_below (by (with_reducible repeat (first | apply Kd.R_alloc | apply Kd.R_drewN | apply Kd.R_drew)); exact HO_1.out) hb); replace BK290 := bb BK290 hb; replace HB := as_ (below_step bA hb); (try clear hb); (try clear hb2); (try clear hk); (try clear hi))))
    go_ret
    exact ⟨eW, by repeat (first | (with_reducible first | exact HB.out | apply below_alloc | apply pw_below_drewN | apply below_drew1 | refine below_set ?_ GE290.out) | exact HB.out)⟩
   replace c17 := Bool.eq_false_iff.mpr c17
   subst c17
   have H1 : (if 0 ≤ (mn (a2_0.size : Int) 20) then (if (mn (a2_0.size : Int) 20) ≤ (a2_0.size : Int) then (if t297.size + (a2_0.extract 0 ((mn (a2_0.size : Int) 20) : Int).toNat).size ≤ 9223372036854775807 then (if 0 ≤ (mn (a2_1.size : Int) 20) then (if (mn (a2_1.size : Int) 20) ≤ (a2_1.size : Int) then (if t299.size + (a2_1.extract 0 ((mn (a2_1.size : Int) 20) : Int).toNat).size ≤ 9223372036854775807 then (if (t297.size : Int) ≤ (t299.size : Int) then (if 0 ≤ (t297.size : Int) then (if (t299.extract 0 t297.size).toList = t297.toList then ((key_Compare.f kj7 t291 t294).bind fun t305 => (if ((decide (t305 < 0)) == (Op.bytesLess t297.toList t299.toList)) = true then (if ((t305 == 0) == (t297.toList == t299.toList)) = true then (if (true == (t305 == 0)) = true then (if t305 = 0 then ((key_Compare.f kj7 t294 t291).bind fun t306 => (if t306 = (wrap64 (-t305)) then ((withylaw04_fixed.f kj7).bind fun t307 => (some t307)) else (none))) else (if ((decide (t305 < 0)) == (Op.bytesLess ((t297 ++ (a2_0.extract 0 ((mn (a2_0.size : Int) 20) : Int).toNat)).toList) ((t299 ++ (a2_1.extract 0 ((mn (a2_1.size : Int) 20) : Int).toNat)).toList))) = true then ((key_Compare.f kj7 t294 t291).bind fun t308 => (if t308 = (wrap64 (-t305)) then ((withylaw04_fixed.f kj7).bind fun t309 => (some t309)) else (none))) else (none))) else (none)) else (none)) else (none))) else (if (t299.size : Int) ≤ (t297.size : Int) then (if 0 ≤ (t299.size : Int) then ((key_Compare.f kj7 t291 t294).bind fun t310 => (if ((decide (t310 < 0)) == (Op.bytesLess t297.toList t299.toList)) = true then (if ((t310 == 0) == (t297.toList == t299.toList)) = true then (if (((t297.extract 0 t299.size).toList == t299.toList) == (t310 == 0)) = true then (if t310 = 0 then ((key_Compare.f kj7 t294 t291).bind fun t311 => (if t311 = (wrap64 (-t310)) then ((withylaw04_fixed.f kj7).bind fun t312 => (some t312)) else (none))) else (if ((decide (t310 < 0)) == (Op.bytesLess ((t297 ++ (a2_0.extract 0 ((mn (a2_0.size : Int) 20) : Int).toNat)).toList) ((t299 ++ (a2_1.extract 0 ((mn (a2_1.size : Int) 20) : Int).toNat)).toList))) = true then ((key_Compare.f kj7 t294 t291).bind fun t313 => (if t313 = (wrap64 (-t310)) then ((withylaw04_fixed.f kj7).bind fun t314 => (some t314)) else (none))) else (none))) else (none)) else (none)) else (none))) else (none)) else ((key_Compare.f kj7 t291 t294).bind fun t315 => (if ((decide (t315 < 0)) == (Op.bytesLess t297.toList t299.toList)) = true then (if ((t315 == 0) == (t297.toList == t299.toList)) = true then (if (false == (t315 == 0)) = true then (if t315 = 0 then ((key_Compare.f kj7 t294 t291).bind fun t316 => (if t316 = (wrap64 (-t315)) then ((withylaw04_fixed.f kj7).bind fun t317 => (some t317)) else (none))) else (if ((decide (t315 < 0)) == (Op.bytesLess ((t297 ++ (a2_0.extract 0 ((mn (a2_0.size : Int) 20) : Int).toNat)).toList) ((t299 ++ (a2_1.extract 0 ((mn (a2_1.size : Int) 20) : Int).toNat)).toList))) = true then ((key_Compare.f kj7 t294 t291).bind fun t318 => (if t318 = (wrap64 (-t315)) then ((withylaw04_fixed.f kj7).bind fun t319 => (some t319)) else (none))) else (none))) else (none)) else (none)) else (none))))) else (none)) else (if (t299.size : Int) ≤ (t297.size : Int) then (if 0 ≤ (t299.size : Int) then ((key_Compare.f kj7 t291 t294).bind fun t320 => (if ((decide (t320 < 0)) == (Op.bytesLess t297.toList t299.toList)) = true then (if ((t320 == 0) == (t297.toList == t299.toList)) = true then (if (((t297.extract 0 t299.size).toList == t299.toList) == (t320 == 0)) = true then (if t320 = 0 then ((key_Compare.f kj7 t294 t291).bind fun t321 => (if t321 = (wrap64 (-t320)) then ((withylaw04_fixed.f kj7).bind fun t322 => (some t322)) else (none))) else (if ((decide (t320 < 0)) == (Op.bytesLess ((t297 ++ (a2_0.extract 0 ((mn (a2_0.size : Int) 20) : Int).toNat)).toList) ((t299 ++ (a2_1.extract 0 ((mn (a2_1.size : Int) 20) : Int).toNat)).toList))) = true then ((key_Compare.f kj7 t294 t291).bind fun t323 => (if t323 = (wrap64 (-t320)) then ((withylaw04_fixed.f kj7).bind fun t324 => (some t324)) else (none))) else (none))) else (none)) else (none)) else (none))) else (none)) else ((key_Compare.f kj7 t291 t294).bind fun t325 => (if ((decide (t325 < 0)) == (Op.bytesLess t297.toList t299.toList)) = true then (if ((t325 == 0) == (t297.toList == t299.toList)) = true then (if (false == (t325 == 0)) = true then (if t325 = 0 then ((key_Compare.f kj7 t294 t291).bind fun t326 => (if t326 = (wrap64 (-t325)) then ((withylaw04_fixed.f kj7).bind fun t327 => (some t327)) else (none))) else (if ((decide (t325 < 0)) == (Op.bytesLess ((t297 ++ (a2_0.extract 0 ((mn (a2_0.size : Int) 20) : Int).toNat)).toList) ((t299 ++ (a2_1.extract 0 ((mn (a2_1.size : Int) 20) : Int).toNat)).toList))) = true then ((key_Compare.f kj7 t294 t291).bind fun t328 => (if t328 = (wrap64 (-t325)) then ((withylaw04_fixed.f kj7).bind fun t329 => (some t329)) else (none))) else (none))) else (none)) else (none)) else (none))))) else (none)) else (none)) else (none)) else (none)) else (none)) else (none)) = some r := by rw [if_neg (show ¬ (false = true) by decide)] at H; exact H
   clear H
   have H := H1
   clear H1
   obtain ⟨ji29, hji29⟩ : ∃ j_ : Int, (mn (a2_0.size : Int) 20) = j_ := ⟨_, rfl⟩
   replace H : (if 0 ≤ (ji29) then (if (ji29) ≤ (a2_0.size : Int) then (if t297.size + (a2_0.extract 0 ((ji29) : Int).toNat).size ≤ 9223372036854775807 then (if 0 ≤ (mn (a2_1.size : Int) 20) then (if (mn (a2_1.size : Int) 20) ≤ (a2_1.size : Int) then (if t299.size + (a2_1.extract 0 ((mn (a2_1.size : Int) 20) : Int).toNat).size ≤ 9223372036854775807 then (if (t297.size : Int) ≤ (t299.size : Int) then (if 0 ≤ (t297.size : Int) then (if (t299.extract 0 t297.size).toList = t297.toList then ((key_Compare.f kj7 t291 t294).bind fun t305 => (if ((decide (t305 < 0)) == (Op.bytesLess t297.toList t299.toList)) = true then (if ((t305 == 0) == (t297.toList == t299.toList)) = true then (if (true == (t305 == 0)) = true then (if t305 = 0 then ((key_Compare.f kj7 t294 t291).bind fun t306 => (if t306 = (wrap64 (-t305)) then ((withylaw04_fixed.f kj7).bind fun t307 => (some t307)) else (none))) else (if ((decide (t305 < 0)) == (Op.bytesLess ((t297 ++ (a2_0.extract 0 ((ji29) : Int).toNat)).toList) ((t299 ++ (a2_1.extract 0 ((mn (a2_1.size : Int) 20) : Int).toNat)).toList))) = true then ((key_Compare.f kj7 t294 t291).bind fun t308 => (if t308 = (wrap64 (-t305)) then ((withylaw04_fixed.f kj7).bind fun t309 => (some t309)) else (none))) else (none))) else (none)) else (none)) else (none))) else (if (t299.size : Int) ≤ (t297.size : Int) then (if 0 ≤ (t299.size : Int) then ((key_Compare.f kj7 t291 t294).bind fun t310 => (if ((decide (t310 < 0)) == (Op.bytesLess t297.toList t299.toList)) = true then (if ((t310 == 0) == (t297.toList == t299.toList)) = true then (if (((t297.extract 0 t299.size).toList == t299.toList) == (t310 == 0)) = true then (if t310 = 0 then ((key_Compare.f kj7 t294 t291).bind fun t311 => (if t311 = (wrap64 (-t310)) then ((withylaw04_fixed.f kj7).bind fun t312 => (some t312)) else (none))) else (if ((decide (t310 < 0)) == (Op.bytesLess ((t297 ++ (a2_0.extract 0 ((ji29) : Int).toNat)).toList) ((t299 ++ (a2_1.extract 0 ((mn (a2_1.size : Int) 20) : Int).toNat)).toList))) = true then ((key_Compare.f kj7 t294 t291).bind fun t313 => (if t313 = (wrap64 (-t310)) then ((withylaw04_fixed.f kj7).bind fun t314 => (some t314)) else (none))) else (none))) else (none)) else (none)) else (none))) else (none)) else ((key_Compare.f kj7 t291 t294).bind fun t315 => (if ((decide (t315 < 0)) == (Op.bytesLess t297.toList t299.toList)) = true then (if ((t315 == 0) == (t297.toList == t299.toList)) = true then (if (false == (t315 == 0)) = true then (if t315 = 0 then ((key_Compare.f kj7 t294 t291).bind fun t316 => (if t316 = (wrap64 (-t315)) then ((withylaw04_fixed.f kj7).bind fun t317 => (some t317)) else (none))) else (if ((decide (t315 < 0)) == (Op.bytesLess ((t297 ++ (a2_0.extract 0 ((ji29) : Int).toNat)).toList) ((t299 ++ (a2_1.extract 0 ((mn (a2_1.size : Int) 20) : Int).toNat)).toList))) = true then ((key_Compare.f kj7 t294 t291).bind fun t318 => (if t318 = (wrap64 (-t315)) then ((withylaw04_fixed.f kj7).bind fun t319 => (some t319)) else (none))) else (none))) else (none)) else (none)) else (none))))) else (none)) else (if (t299.size : Int) ≤ (t297.size : Int) then (if 0 ≤ (t299.size : Int) then ((key_Compare.f kj7 t291 t294).bind fun t320 => (if ((decide (t320 < 0)) == (Op.bytesLess t297.toList t299.toList)) = true then (if ((t320 == 0) == (t297.toList == t299.toList)) = true then (if (((t297.extract 0 t299.size).toList == t299.toList) == (t320 == 0)) = true then (if t320 = 0 then ((key_Compare.f kj7 t294 t291).bind fun t321 => (if t321 = (wrap64 (-t320)) then ((withylaw04_fixed.f kj7).bind fun t322 => (some t322)) else (none))) else (if ((decide (t320 < 0)) == (Op.bytesLess ((t297 ++ (a2_0.extract 0 ((ji29) : Int).toNat)).toList) ((t299 ++ (a2_1.extract 0 ((mn (a2_1.size : Int) 20) : Int).toNat)).toList))) = true then ((key_Compare.f kj7 t294 t291).bind fun t323 => (if t323 = (wrap64 (-t320)) then ((withylaw04_fixed.f kj7).bind fun t324 => (some t324)) else (none))) else (none))) else (none)) else (none)) else (none))) else (none)) else ((key_Compare.f kj7 t291 t294).bind fun t325 => (if ((decide (t325 < 0)) == (Op.bytesLess t297.toList t299.toList)) = true then (if ((t325 == 0) == (t297.toList == t299.toList)) = true then (if (false == (t325 == 0)) = true then (if t325 = 0 then ((key_Compare.f kj7 t294 t291).bind fun t326 => (if t326 = (wrap64 (-t325)) then ((withylaw04_fixed.f kj7).bind fun t327 => (some t327)) else (none))) else (if ((decide (t325 < 0)) == (Op.bytesLess ((t297 ++ (a2_0.extract 0 ((ji29) : Int).toNat)).toList) ((t299 ++ (a2_1.extract 0 ((mn (a2_1.size : Int) 20) : Int).toNat)).toList))) = true then ((key_Compare.f kj7 t294 t291).bind fun t328 => (if t328 = (wrap64 (-t325)) then ((withylaw04_fixed.f kj7).bind fun t329 => (some t329)) else (none))) else (none))) else (none)) else (none)) else (none))))) else (none)) else (none)) else (none)) else (none)) else (none)) else (none)) = some r := by first | (rw [hji29] at H; exact H) | (simp only [hji29] at H ⊢; exact H)
   have hji29_ : (if 20 < (a2_0.size : Int) then 20 else (a2_0.size : Int)) = ji29 := hji29
   by_cases c30 : 0 ≤ (ji29)
   rotate_left
   ·rw [if_neg c30] at H
    exact absurd H (by simp)
 
   rw [if_pos c30] at H
   have c30b0 := eq_true c30
   have c30b1 : decide (0 ≤ (ji29)) = true := decide_eq_true c30
   clear c30
   by_cases c31 : (ji29) ≤ (a2_0.size : Int)
   rotate_left
   ·rw [if_neg c31] at H
    exact absurd H (by simp)
   rw [if_pos c31] at H
   have c31b0 := eq_true c31
   have c31b1 : decide ((ji29) ≤ (a2_0.size : Int)) = true := decide_eq_true c31
   clear c31
   obtain ⟨js32, hjs32⟩ : ∃ j_ : ByteArray, (a2_0.extract 0 ((ji29) : Int).toNat) = j_ := ⟨_, rfl⟩
   replace H : (if t297.size + (js32).size ≤ 9223372036854775807 then (if 0 ≤ (mn (a2_1.size : Int) 20) then (if (mn (a2_1.size : Int) 20) ≤ (a2_1.size : Int) then (if t299.size + (a2_1.extract 0 ((mn (a2_1.size : Int) 20) : Int).toNat).size ≤ 9223372036854775807 then (if (t297.size : Int) ≤ (t299.size : Int) then (if 0 ≤ (t297.size : Int) then (if (t299.extract 0 t297.size).toList = t297.toList then ((key_Compare.f kj7 t291 t294).bind fun t305 => (if ((decide (t305 < 0)) == (Op.bytesLess t297.toList t299.toList)) = true then (if ((t305 == 0) == (t297.toList == t299.toList)) = true then (if (true == (t305 == 0)) = true then (if t305 = 0 then ((key_Compare.f kj7 t294 t291).bind fun t306 => (if t306 = (wrap64 (-t305)) then ((withylaw04_fixed.f kj7).bind fun t307 => (some t307)) else (none))) else (if ((decide (t305 < 0)) == (Op.bytesLess ((t297 ++ (js32)).toList) ((t299 ++ (a2_1.extract 0 ((mn (a2_1.size : Int) 20) : Int).toNat)).toList))) = true then ((key_Compare.f kj7 t294 t291).bind fun t308 => (if t308 = (wrap64 (-t305)) then ((withylaw04_fixed.f kj7).bind fun t309 => (some t309)) else (none))) else (none))) else (none)) else (none)) else (none))) else (if (t299.size : Int) ≤ (t297.size : Int) then (if 0 ≤ (t299.size : Int) then ((key_Compare.f kj7 t291 t294).bind fun t310 => (if ((decide (t310 < 0)) == (Op.bytesLess t297.toList t299.toList)) = true then (if ((t310 == 0) == (t297.toList == t299.toList)) = true then (if (((t297.extract 0 t299.size).toList == t299.toList) == (t310 == 0)) = true then (if t310 = 0 then ((key_Compare.f kj7 t294 t291).bind fun t311 => (if t311 = (wrap64 (-t310)) then ((withylaw04_fixed.f kj7).bind fun t312 => (some t312)) else (none))) else (if ((decide (t310 < 0)) == (Op.bytesLess ((t297 ++ (js32)).toList) ((t299 ++ (a2_1.extract 0 ((mn (a2_1.size : Int) 20) : Int).toNat)).toList))) = true then ((key_Compare.f kj7 t294 t291).bind fun t313 => (if t313 = (wrap64 (-t310)) then ((withylaw04_fixed.f kj7).bind fun t314 => (some t314)) else (none))) else (none))) else (none)) else (none)) else (none))) else (none)) else ((key_Compare.f kj7 t291 t294).bind fun t315 => (if ((decide (t315 < 0)) == (Op.bytesLess t297.toList t299.toList)) = true then (if ((t315 == 0) == (t297.toList == t299.toList)) = true then (if (false == (t315 == 0)) = true then (if t315 = 0 then ((key_Compare.f kj7 t294 t291).bind fun t316 => (if t316 = (wrap64 (-t315)) then ((withylaw04_fixed.f kj7).bind fun t317 => (some t317)) else (none))) else (if ((decide (t315 < 0)) == (Op.bytesLess ((t297 ++ (js32)).toList) ((t299 ++ (a2_1.extract 0 ((mn (a2_1.size : Int) 20) : Int).toNat)).toList))) = true then ((key_Compare.f kj7 t294 t291).bind fun t318 => (if t318 = (wrap64 (-t315)) then ((withylaw04_fixed.f kj7).bind fun t319 => (some t319)) else (none))) else (none))) else (none)) else (none)) else (none))))) else (none)) else (if (t299.size : Int) ≤ (t297.size : Int) then (if 0 ≤ (t299.size : Int) then ((key_Compare.f kj7 t291 t294).bind fun t320 => (if ((decide (t320 < 0)) == (Op.bytesLess t297.toList t299.toList)) = true then (if ((t320 == 0) == (t297.toList == t299.toList)) = true then (if (((t297.extract 0 t299.size).toList == t299.toList) == (t320 == 0)) = true then (if t320 = 0 then ((key_Compare.f kj7 t294 t291).bind fun t321 => (if t321 = (wrap64 (-t320)) then ((withylaw04_fixed.f kj7).bind fun t322 => (some t322)) else (none))) else (if ((decide (t320 < 0)) == (Op.bytesLess ((t297 ++ (js32)).toList) ((t299 ++ (a2_1.extract 0 ((mn (a2_1.size : Int) 20) : Int).toNat)).toList))) = true then ((key_Compare.f kj7 t294 t291).bind fun t323 => (if t323 = (wrap64 (-t320)) then ((withylaw04_fixed.f kj7).bind fun t324 => (some t324)) else (none))) else (none))) else (none)) else (none)) else (none))) else (none)) else ((key_Compare.f kj7 t291 t294).bind fun t325 => (if ((decide (t325 < 0)) == (Op.bytesLess t297.toList t299.toList)) = true then (if ((t325 == 0) == (t297.toList == t299.toList)) = true then (if (false == (t325 == 0)) = true then (if t325 = 0 then ((key_Compare.f kj7 t294 t291).bind fun t326 => (if t326 = (wrap64 (-t325)) then ((withylaw04_fixed.f kj7).bind fun t327 => (some t327)) else (none))) else (if ((decide (t325 < 0)) == (Op.bytesLess ((t297 ++ (js32)).toList) ((t299 ++ (a2_1.extract 0 ((mn (a2_1.size : Int) 20) : Int).toNat)).toList))) = true then ((key_Compare.f kj7 t294 t291).bind fun t328 => (if t328 = (wrap64 (-t325)) then ((withylaw04_fixed.f kj7).bind fun t329 => (some t329)) else (none))) else (none))) else (none)) else (none)) else (none))))) else (none)) else (none)) else (none)) else (none)) = some r := by first | (rw [hjs32] at H; exact H) | (simp only [hjs32] at H ⊢; exact H)
   by_cases c33 : t297.size + (js32).size ≤ 9223372036854775807
   rotate_left
   ·rw [if_neg c33] at H
    exact absurd H (by simp)
   rw [if_pos c33] at H
   have c33b0 := eq_true c33
   have c33b1 : decide (t297.size + (js32).size ≤ 9223372036854775807) = true := decide_eq_true c33
   try have c33b2 : (9223372036854775807 < t297.size + (js32).size) = False := eq_false (Nat.not_lt.2 c33)
   obtain ⟨js34, hjs34⟩ : ∃ j_ : ByteArray, (t297 ++ (js32)) = j_ := ⟨_, rfl⟩
   replace H : (if 0 ≤ (mn (a2_1.size : Int) 20) then (if (mn (a2_1.size : Int) 20) ≤ (a2_1.size : Int) then (if t299.size + (a2_1.extract 0 ((mn (a2_1.size : Int) 20) : Int).toNat).size ≤ 9223372036854775807 then (if (t297.size : Int) ≤ (t299.size : Int) then (if 0 ≤ (t297.size : Int) then (if (t299.extract 0 t297.size).toList = t297.toList then ((key_Compare.f kj7 t291 t294).bind fun t305 => (if ((decide (t305 < 0)) == (Op.bytesLess t297.toList t299.toList)) = true then (if ((t305 == 0) == (t297.toList == t299.toList)) = true then (if (true == (t305 == 0)) = true then (if t305 = 0 then ((key_Compare.f kj7 t294 t291).bind fun t306 => (if t306 = (wrap64 (-t305)) then ((withylaw04_fixed.f kj7).bind fun t307 => (some t307)) else (none))) else (if ((decide (t305 < 0)) == (Op.bytesLess ((js34).toList) ((t299 ++ (a2_1.extract 0 ((mn (a2_1.size : Int) 20) : Int).toNat)).toList))) = true then ((key_Compare.f kj7 t294 t291).bind fun t308 => (if t308 = (wrap64 (-t305)) then ((withylaw04_fixed.f kj7).bind fun t309 => (some t309)) else (none))) else (none))) else (none)) else (none)) else (none))) else (if (t299.size : Int) ≤ (t297.size : Int) then (if 0 ≤ (t299.size : Int) then ((key_Compare.f kj7 t291 t294).bind fun t310 => (if ((decide (t310 < 0)) == (Op.bytesLess t297.toList t299.toList)) = true then (if ((t310 == 0) == (t297.toList == t299.toList)) = true then (if (((t297.extract 0 t299.size).toList == t299.toList) == (t310 == 0)) = true then (if t310 = 0 then ((key_Compare.f kj7 t294 t291).bind fun t311 => (if t311 = (wrap64 (-t310)) then ((withylaw04_fixed.f kj7).bind fun t312 => (some t312)) else (none))) else (if ((decide (t310 < 0)) == (Op.bytesLess ((js34).toList) ((t299 ++ (a2_1.extract 0 ((mn (a2_1.size : Int) 20) : Int).toNat)).toList))) = true then ((key_Compare.f kj7 t294 t291).bind fun t313 => (if t313 = (wrap64 (-t310)) then ((withylaw04_fixed.f kj7).bind fun t314 => (some t314)) else (none))) else (none))) else (none)) else (none)) else (none))) else (none)) else ((key_Compare.f kj7 t291 t294).bind fun t315 => (if ((decide (t315 < 0)) == (Op.bytesLess t297.toList t299.toList)) = true then (if ((t315 == 0) == (t297.toList == t299.toList)) = true then (if (false == (t315 == 0)) = true then (if t315 = 0 then ((key_Compare.f kj7 t294 t291).bind fun t316 => (if t316 = (wrap64 (-t315)) then ((withylaw04_fixed.f kj7).bind fun t317 => (some t317)) else (none))) else (if ((decide (t315 < 0)) == (Op.bytesLess ((js34).toList) ((t299 ++ (a2_1.extract 0 ((mn (a2_1.size : Int) 20) : Int).toNat)).toList))) = true then ((key_Compare.f kj7 t294 t291).bind fun t318 => (if t318 = (wrap64 (-t315)) then ((withylaw04_fixed.f kj7).bind fun t319 => (some t319)) else (none))) else (none))) else (none)) else (none)) else (none))))) else (none)) else (if (t299.size : Int) ≤ (t297.size : Int) then (if 0 ≤ (t299.size : Int) then ((key_Compare.f kj7 t291 t294).bind fun t320 => (if ((decide (t320 < 0)) == (Op.bytesLess t297.toList t299.toList)) = true then (if ((t320 == 0) == (t297.toList == t299.toList)) = true then (if (((t297.extract 0 t299.size).toList == t299.toList) == (t320 == 0)) = true then (if t320 = 0 then ((key_Compare.f kj7 t294 t291).bind fun t321 => (if t321 = (wrap64 (-t320)) then ((withylaw04_fixed.f kj7).bind fun t322 => (some t322)) else (none))) else (if ((decide (t320 < 0)) == (Op.bytesLess ((js34).toList) ((t299 ++ (a2_1.extract 0 ((mn (a2_1.size : Int) 20) : Int).toNat)).toList))) = true then ((key_Compare.f kj7 t294 t291).bind fun t323 => (if t323 = (wrap64 (-t320)) then ((withylaw04_fixed.f kj7).bind fun t324 => (some t324)) else (none))) else (none))) else (none)) else (none)) else (none))) else (none)) else ((key_Compare.f kj7 t291 t294).bind fun t325 => (if ((decide (t325 < 0)) == (Op.bytesLess t297.toList t299.toList)) = true then (if ((t325 == 0) == (t297.toList == t299.toList)) = true then (if (false == (t325 == 0)) = true then (if t325 = 0 then ((key_Compare.f kj7 t294 t291).bind fun t326 => (if t326 = (wrap64 (-t325)) then ((withylaw04_fixed.f kj7).bind fun t327 => (some t327)) else (none))) else (if ((decide (t325 < 0)) == (Op.bytesLess ((js34).toList) ((t299 ++ (a2_1.extract 0 ((mn (a2_1.size : Int) 20) : Int).toNat)).toList))) = true then ((key_Compare.f kj7 t294 t291).bind fun t328 => (if t328 = (wrap64 (-t325)) then ((withylaw04_fixed.f kj7).bind fun t329 => (some t329)) else (none))) else (none))) else (none)) else (none)) else (none))))) else (none)) else (none)) else (none)) = some r := by first | (rw [hjs34] at H; exact H) | (simp only [hjs34] at H ⊢; exact H)
   obtain ⟨ji35, hji35⟩ : ∃ j_ : Int, (mn (a2_1.size : Int) 20) = j_ := ⟨_, rfl⟩
   replace H : (if 0 ≤ (ji35) then (if (ji35) ≤ (a2_1.size : Int) then (if t299.size + (a2_1.extract 0 ((ji35) : Int).toNat).size ≤ 9223372036854775807 then (if (t297.size : Int) ≤ (t299.size : Int) then (if 0 ≤ (t297.size : Int) then (if (t299.extract 0 t297.size).toList = t297.toList then ((key_Compare.f kj7 t291 t294).bind fun t305 => (if ((decide (t305 < 0)) == (Op.bytesLess t297.toList t299.toList)) = true then (if ((t305 == 0) == (t297.toList == t299.toList)) = true then (if (true == (t305 == 0)) = true then (if t305 = 0 then ((key_Compare.f kj7 t294 t291).bind fun t306 => (if t306 = (wrap64 (-t305)) then ((withylaw04_fixed.f kj7).bind fun t307 => (some t307)) else (none))) else (if ((decide (t305 < 0)) == (Op.bytesLess ((js34).toList) ((t299 ++ (a2_1.extract 0 ((ji35) : Int).toNat)).toList))) = true then ((key_Compare.f kj7 t294 t291).bind fun t308 => (if t308 = (wrap64 (-t305)) then ((withylaw04_fixed.f kj7).bind fun t309 => (some t309)) else (none))) else (none))) else (none)) else (none)) else (none))) else (if (t299.size : Int) ≤ (t297.size : Int) then (if 0 ≤ (t299.size : Int) then ((key_Compare.f kj7 t291 t294).bind fun t310 => (if ((decide (t310 < 0)) == (Op.bytesLess t297.toList t299.toList)) = true then (if ((t310 == 0) == (t297.toList == t299.toList)) = true then (if (((t297.extract 0 t299.size).toList == t299.toList) == (t310 == 0)) = true then (if t310 = 0 then ((key_Compare.f kj7 t294 t291).bind fun t311 => (if t311 = (wrap64 (-t310)) then ((withylaw04_fixed.f kj7).bind fun t312 => (some t312)) else (none))) else (if ((decide (t310 < 0)) == (Op.bytesLess ((js34).toList) ((t299 ++ (a2_1.extract 0 ((ji35) : Int).toNat)).toList))) = true then ((key_Compare.f kj7 t294 t291).bind fun t313 => (if t313 = (wrap64 (-t310)) then ((withylaw04_fixed.f kj7).bind fun t314 => (some t314)) else (none))) else (none))) else (none)) else (none)) else (none))) else (none)) else ((key_Compare.f kj7 t291 t294).bind fun t315 => (if ((decide (t315 < 0)) == (Op.bytesLess t297.toList t299.toList)) = true then (if ((t315 == 0) == (t297.toList == t299.toList)) = true then (if (false == (t315 == 0)) = true then (if t315 = 0 then ((key_Compare.f kj7 t294 t291).bind fun t316 => (if t316 = (wrap64 (-t315)) then ((withylaw04_fixed.f kj7).bind fun t317 => (some t317)) else (none))) else (if ((decide (t315 < 0)) == (Op.bytesLess ((js34).toList) ((t299 ++ (a2_1.extract 0 ((ji35) : Int).toNat)).toList))) = true then ((key_Compare.f kj7 t294 t291).bind fun t318 => (if t318 = (wrap64 (-t315)) then ((withylaw04_fixed.f kj7).bind fun t319 => (some t319)) else (none))) else (none))) else (none)) else (none)) else (none))))) else (none)) else (if (t299.size : Int) ≤ (t297.size : Int) then (if 0 ≤ (t299.size : Int) then ((key_Compare.f kj7 t291 t294).bind fun t320 => (if ((decide (t320 < 0)) == (Op.bytesLess t297.toList t299.toList)) = true then (if ((t320 == 0) == (t297.toList == t299.toList)) = true then (if (((t297.extract 0 t299.size).toList == t299.toList) == (t320 == 0)) = true then (if t320 = 0 then ((key_Compare.f kj7 t294 t291).bind fun t321 => (if t321 = (wrap64 (-t320)) then ((withylaw04_fixed.f kj7).bind fun t322 => (some t322)) else (none))) else (if ((decide (t320 < 0)) == (Op.bytesLess ((js34).toList) ((t299 ++ (a2_1.extract 0 ((ji35) : Int).toNat)).toList))) = true then ((key_Compare.f kj7 t294 t291).bind fun t323 => (if t323 = (wrap64 (-t320)) then ((withylaw04_fixed.f kj7).bind fun t324 => (some t324)) else (none))) else (none))) else (none)) else (none)) else (none))) else (none)) else ((key_Compare.f kj7 t291 t294).bind fun t325 => (if ((decide (t325 < 0)) == (Op.bytesLess t297.toList t299.toList)) = true then (if ((t325 == 0) == (t297.toList == t299.toList)) = true then (if (false == (t325 == 0)) = true then (if t325 = 0 then ((key_Compare.f kj7 t294 t291).bind fun t326 => (if t326 = (wrap64 (-t325)) then ((withylaw04_fixed.f kj7).bind fun t327 => (some t327)) else (none))) else (if ((decide (t325 < 0)) == (Op.bytesLess ((js34).toList) ((t299 ++ (a2_1.extract 0 ((ji35) : Int).toNat)).toList))) = true then ((key_Compare.f kj7 t294 t291).bind fun t328 => (if t328 = (wrap64 (-t325)) then ((withylaw04_fixed.f kj7).bind fun t329 => (some t329)) else (none))) else (none))) else (none)) else (none)) else (none))))) else (none)) else (none)) else (none)) = some r := by first | (rw [hji35] at H; exact H) | (simp only [hji35] at H ⊢; exact H)
   have hji35_ : (if 20 < (a2_1.size : Int) then 20 else (a2_1.size : Int)) = ji35 := hji35
   by_cases c36 : 0 ≤ (ji35)
   rotate_left
   ·rw [if_neg c36] at H
    exact absurd H (by simp)
   rw [if_pos c36] at H
   have c36b0 := eq_true c36
   have c36b1 : decide (0 ≤ (ji35)) = true := decide_eq_true c36
   clear c36
   by_cases c37 : (ji35) ≤ (a2_1.size : Int)
   rotate_left
   ·rw [if_neg c37] at H
    exact absurd H (by simp)
   rw [if_pos c37] at H
   have c37b0 := eq_true c37
   have c37b1 : decide ((ji35) ≤ (a2_1.size : Int)) = true := decide_eq_true c37
   clear c37
   obtain ⟨js38, hjs38⟩ : ∃ j_ : ByteArray, (a2_1.extract 0 ((ji35) : Int).toNat) = j_ := ⟨_, rfl⟩
   replace H : (if t299.size + (js38).size ≤ 9223372036854775807 then (if (t297.size : Int) ≤ (t299.size : Int) then (if 0 ≤ (t297.size : Int) then (if (t299.extract 0 t297.size).toList = t297.toList then ((key_Compare.f kj7 t291 t294).bind fun t305 => (if ((decide (t305 < 0)) == (Op.bytesLess t297.toList t299.toList)) = true then (if ((t305 == 0) == (t297.toList == t299.toList)) = true then (if (true == (t305 == 0)) = true then (if t305 = 0 then ((key_Compare.f kj7 t294 t291).bind fun t306 => (if t306 = (wrap64 (-t305)) then ((withylaw04_fixed.f kj7).bind fun t307 => (some t307)) else (none))) else (if ((decide (t305 < 0)) == (Op.bytesLess ((js34).toList) ((t299 ++ (js38)).toList))) = true then ((key_Compare.f kj7 t294 t291).bind fun t308 => (if t308 = (wrap64 (-t305)) then ((withylaw04_fixed.f kj7).bind fun t309 => (some t309)) else (none))) else (none))) else (none)) else (none)) else (none))) else (if (t299.size : Int) ≤ (t297.size : Int) then (if 0 ≤ (t299.size : Int) then ((key_Compare.f kj7 t291 t294).bind fun t310 => (if ((decide (t310 < 0)) == (Op.bytesLess t297.toList t299.toList)) = true then (if ((t310 == 0) == (t297.toList == t299.toList)) = true then (if (((t297.extract 0 t299.size).toList == t299.toList) == (t310 == 0)) = true then (if t310 = 0 then ((key_Compare.f kj7 t294 t291).bind fun t311 => (if t311 = (wrap64 (-t310)) then ((withylaw04_fixed.f kj7).bind fun t312 => (some t312)) else (none))) else (if ((decide (t310 < 0)) == (Op.bytesLess ((js34).toList) ((t299 ++ (js38)).toList))) = true then ((key_Compare.f kj7 t294 t291).bind fun t313 => (if t313 = (wrap64 (-t310)) then ((withylaw04_fixed.f kj7).bind fun t314 => (some t314)) else (none))) else (none))) else (none)) else (none)) else (none))) else (none)) else ((key_Compare.f kj7 t291 t294).bind fun t315 => (if ((decide (t315 < 0)) == (Op.bytesLess t297.toList t299.toList)) = true then (if ((t315 == 0) == (t297.toList == t299.toList)) = true then (if (false == (t315 == 0)) = true then (if t315 = 0 then ((key_Compare.f kj7 t294 t291).bind fun t316 => (if t316 = (wrap64 (-t315)) then ((withylaw04_fixed.f kj7).bind fun t317 => (some t317)) else (none))) else (if ((decide (t315 < 0)) == (Op.bytesLess ((js34).toList) ((t299 ++ (js38)).toList))) = true then ((key_Compare.f kj7 t294 t291).bind fun t318 => (if t318 = (wrap64 (-t315)) then ((withylaw04_fixed.f kj7).bind fun t319 => (some t319)) else (none))) else (none))) else (none)) else (none)) else (none))))) else (none)) else (if (t299.size : Int) ≤ (t297.size : Int) then (if 0 ≤ (t299.size : Int) then ((key_Compare.f kj7 t291 t294).bind fun t320 => (if ((decide (t320 < 0)) == (Op.bytesLess t297.toList t299.toList)) = true then (if ((t320 == 0) == (t297.toList == t299.toList)) = true then (if (((t297.extract 0 t299.size).toList == t299.toList) == (t320 == 0)) = true then (if t320 = 0 then ((key_Compare.f kj7 t294 t291).bind fun t321 => (if t321 = (wrap64 (-t320)) then ((withylaw04_fixed.f kj7).bind fun t322 => (some t322)) else (none))) else (if ((decide (t320 < 0)) == (Op.bytesLess ((js34).toList) ((t299 ++ (js38)).toList))) = true then ((key_Compare.f kj7 t294 t291).bind fun t323 => (if t323 = (wrap64 (-t320)) then ((withylaw04_fixed.f kj7).bind fun t324 => (some t324)) else (none))) else (none))) else (none)) else (none)) else (none))) else (none)) else ((key_Compare.f kj7 t291 t294).bind fun t325 => (if ((decide (t325 < 0)) == (Op.bytesLess t297.toList t299.toList)) = true then (if ((t325 == 0) == (t297.toList == t299.toList)) = true then (if (false == (t325 == 0)) = true then (if t325 = 0 then ((key_Compare.f kj7 t294 t291).bind fun t326 => (if t326 = (wrap64 (-t325)) then ((withylaw04_fixed.f kj7).bind fun t327 => (some t327)) else (none))) else (if ((decide (t325 < 0)) == (Op.bytesLess ((js34).toList) ((t299 ++ (js38)).toList))) = true then ((key_Compare.f kj7 t294 t291).bind fun t328 => (if t328 = (wrap64 (-t325)) then ((withylaw04_fixed.f kj7).bind fun t329 => (some t329)) else (none))) else (none))) else (none)) else (none)) else (none))))) else (none)) = some r := by first | (rw [hjs38] at H; exact H) | (simp only [hjs38] at H ⊢; exact H)
   by_cases c39 : t299.size + (js38).size ≤ 9223372036854775807
   rotate_left
   ·rw [if_neg c39] at H
    exact absurd H (by simp)
   rw [if_pos c39] at H
   have c39b0 := eq_true c39
   have c39b1 : decide (t299.size + (js38).size ≤ 9223372036854775807) = true := decide_eq_true c39
   try have c39b2 : (9223372036854775807 < t299.size + (js38).size) = False := eq_false (Nat.not_lt.2 c39)
   obtain ⟨js40, hjs40⟩ : ∃ j_ : ByteArray, (t299 ++ (js38)) = j_ := ⟨_, rfl⟩
   replace H : (if (t297.size : Int) ≤ (t299.size : Int) then (if 0 ≤ (t297.size : Int) then (if (t299.extract 0 t297.size).toList = t297.toList then ((key_Compare.f kj7 t291 t294).bind fun t305 => (if ((decide (t305 < 0)) == (Op.bytesLess t297.toList t299.toList)) = true then (if ((t305 == 0) == (t297.toList == t299.toList)) = true then (if (true == (t305 == 0)) = true then (if t305 = 0 then ((key_Compare.f kj7 t294 t291).bind fun t306 => (if t306 = (wrap64 (-t305)) then ((withylaw04_fixed.f kj7).bind fun t307 => (some t307)) else (none))) else (if ((decide (t305 < 0)) == (Op.bytesLess ((js34).toList) ((js40).toList))) = true then ((key_Compare.f kj7 t294 t291).bind fun t308 => (if t308 = (wrap64 (-t305)) then ((withylaw04_fixed.f kj7).bind fun t309 => (some t309)) else (none))) else (none))) else (none)) else (none)) else (none))) else (if (t299.size : Int) ≤ (t297.size : Int) then (if 0 ≤ (t299.size : Int) then ((key_Compare.f kj7 t291 t294).bind fun t310 => (if ((decide (t310 < 0)) == (Op.bytesLess t297.toList t299.toList)) = true then (if ((t310 == 0) == (t297.toList == t299.toList)) = true then (if (((t297.extract 0 t299.size).toList == t299.toList) == (t310 == 0)) = true then (if t310 = 0 then ((key_Compare.f kj7 t294 t291).bind fun t311 => (if t311 = (wrap64 (-t310)) then ((withylaw04_fixed.f kj7).bind fun t312 => (some t312)) else (none))) else (if ((decide (t310 < 0)) == (Op.bytesLess ((js34).toList) ((js40).toList))) = true then ((key_Compare.f kj7 t294 t291).bind fun t313 => (if t313 = (wrap64 (-t310)) then ((withylaw04_fixed.f kj7).bind fun t314 => (some t314)) else (none))) else (none))) else (none)) else (none)) else (none))) else (none)) else ((key_Compare.f kj7 t291 t294).bind fun t315 => (if ((decide (t315 < 0)) == (Op.bytesLess t297.toList t299.toList)) = true then (if ((t315 == 0) == (t297.toList == t299.toList)) = true then (if (false == (t315 == 0)) = true then (if t315 = 0 then ((key_Compare.f kj7 t294 t291).bind fun t316 => (if t316 = (wrap64 (-t315)) then ((withylaw04_fixed.f kj7).bind fun t317 => (some t317)) else (none))) else (if ((decide (t315 < 0)) == (Op.bytesLess ((js34).toList) ((js40).toList))) = true then ((key_Compare.f kj7 t294 t291).bind fun t318 => (if t318 = (wrap64 (-t315)) then ((withylaw04_fixed.f kj7).bind fun t319 => (some t319)) else (none))) else (none))) else (none)) else (none)) else (none))))) else (none)) else (if (t299.size : Int) ≤ (t297.size : Int) then (if 0 ≤ (t299.size : Int) then ((key_Compare.f kj7 t291 t294).bind fun t320 => (if ((decide (t320 < 0)) == (Op.bytesLess t297.toList t299.toList)) = true then (if ((t320 == 0) == (t297.toList == t299.toList)) = true then (if (((t297.extract 0 t299.size).toList == t299.toList) == (t320 == 0)) = true then (if t320 = 0 then ((key_Compare.f kj7 t294 t291).bind fun t321 => (if t321 = (wrap64 (-t320)) then ((withylaw04_fixed.f kj7).bind fun t322 => (some t322)) else (none))) else (if ((decide (t320 < 0)) == (Op.bytesLess ((js34).toList) ((js40).toList))) = true then ((key_Compare.f kj7 t294 t291).bind fun t323 => (if t323 = (wrap64 (-t320)) then ((withylaw04_fixed.f kj7).bind fun t324 => (some t324)) else (none))) else (none))) else (none)) else (none)) else (none))) else (none)) else ((key_Compare.f kj7 t291 t294).bind fun t325 => (if ((decide (t325 < 0)) == (Op.bytesLess t297.toList t299.toList)) = true then (if ((t325 == 0) == (t297.toList == t299.toList)) = true then (if (false == (t325 == 0)) = true then (if t325 = 0 then ((key_Compare.f kj7 t294 t291).bind fun t326 => (if t326 = (wrap64 (-t325)) then ((withylaw04_fixed.f kj7).bind fun t327 => (some t327)) else (none))) else (if ((decide (t325 < 0)) == (Op.bytesLess ((js34).toList) ((js40).toList))) = true then ((key_Compare.f kj7 t294 t291).bind fun t328 => (if t328 = (wrap64 (-t325)) then ((withylaw04_fixed.f kj7).bind fun t329 => (some t329)) else (none))) else (none))) else (none)) else (none)) else (none))))) = some r := by first | (rw [hjs40] at H; exact H) | (simp only [hjs40] at H ⊢; exact H)
   by_cases c41 : (t297.size : Int) ≤ (t299.size : Int)
   rotate_left
   ·rw [if_neg c41] at H
    have c41b0 : decide ((t297.size : Int) ≤ (t299.size : Int)) = false := decide_eq_false c41
    have c41b1 : decide (t297.size ≤ t299.size) = false := decide_eq_false (fun h => c41 (Int.ofNat_le.mpr h))
    clear c41
    by_cases c110 : (t299.size : Int) ≤ (t297.size : Int)
    rotate_left
    ·rw [if_neg c110] at H
     have c110b0 : decide ((t299.size : Int) ≤ (t297.size : Int)) = false := decide_eq_false c110
     have c110b1 : decide (t299.size ≤ t297.size) = false := decide_eq_false (fun h => c110 (Int.ofNat_le.mpr h))
     clear c110
     replace H := bM H
     obtain ⟨t325, A1340, H⟩ := H
     replace H : (if ((decide (t325 < 0)) == (Op.bytesLess t297.toList t299.toList)) = true then (if ((t325 == 0) == (t297.toList == t299.toList)) = true then (if (false == (t325 == 0)) = true then (if t325 = 0 then ((key_Compare.f kj7 t294 t291).bind fun t326 => (if t326 = (wrap64 (-t325)) then ((withylaw04_fixed.f kj7).bind fun t327 => (some t327)) else (none))) else (if ((decide (t325 < 0)) == (Op.bytesLess ((js34).toList) ((js40).toList))) = true then ((key_Compare.f kj7 t294 t291).bind fun t328 => (if t328 = (wrap64 (-t325)) then ((withylaw04_fixed.f kj7).bind fun t329 => (some t329)) else (none))) else (none))) else (none)) else (none)) else (none)) = some r := H
     have A134 := Aside0.mk A1340
     clear A1340
     by_cases c135 : ((decide (t325 < 0)) == (Op.bytesLess t297.toList t299.toList)) = true
     rotate_left
     ·rw [if_neg c135] at H
      exact absurd H (by simp)
     rw [if_pos c135] at H
     have c135b0 : ((decide (t325 < 0)) == (Op.bytesLess t297.toList t299.toList)) = true := c135
     (try (have c135b1 : decide ((decide (t325 < 0)) = (Op.bytesLess t297.toList t299.toList)) = true := by simpa using c135))
     (try (have c135b2 : ((decide (t325 < 0)) == (Op.bytesLess t297.toList t299.toList)) = true := by simpa using c135))
     clear c135
     by_cases c136 : ((t325 == 0) == (t297.toList == t299.toList)) = true
     rotate_left
     ·rw [if_neg c136] at H
      exact absurd H (by simp)
     rw [if_pos c136] at H
     have c136b0 : ((t325 == 0) == (t297.toList == t299.toList)) = true := c136
     (try (have c136b1 : decide ((t325 == 0) = (t297.toList == t299.toList)) = true := by simpa using c136))
     (try (have c136b2 : ((t325 == 0) == (t297.toList == t299.toList)) = true := by simpa using c136))
     clear c136
     by_cases c137 : (false == (t325 == 0)) = true
     rotate_left
     ·rw [if_neg c137] at H
      exact absurd H (by simp)
     rw [if_pos c137] at H
     have c137b0 : (false == (t325 == 0)) = true := c137
     (try (have c137b1 : (t325 == 0) = false := by simpa using c137))
     (try (have c137b2 : decide (false = (t325 == 0)) = true := by simpa using c137))
     (try (have c137b3 : (false == (t325 == 0)) = true := by simpa using c137))
     clear c137
     by_cases c138 : t325 = 0
     ·rw [if_pos c138] at H
      have c138b0 : (t325 == 0) = true := beq_iff_eq.mpr c138
      (try (have c136u : decide (t297.toList = t299.toList) = true := by have h_ := c136b0; rw [c138b0] at h_; simpa using h_))
      (try (have c136t : (t297.toList == t299.toList) = true := by have h_ := c136b0; rw [c138b0] at h_; simpa using h_))
      (try (have c136u : decide (t297.toList = t299.toList) = false := by have h_ := c136b0; rw [c138b0] at h_; simpa using h_))
      (try (have c136t : (t297.toList == t299.toList) = false := by have h_ := c136b0; rw [c138b0] at h_; simpa using h_))
      exact absurd ((eq_of_beq c137b0).trans c138b0) (by decide)
     rw [if_neg c138] at H
     have c138b0 : (t325 == 0) = false := beq_eq_false_iff_ne.mpr c138
     (try (have c136u : decide (t297.toList = t299.toList) = true := by have h_ := c136b0; rw [c138b0] at h_; simpa using h_))
     (try (have c136t : (t297.toList == t299.toList) = true := by have h_ := c136b0; rw [c138b0] at h_; simpa using h_))
     (try (have c136u : decide (t297.toList = t299.toList) = false := by have h_ := c136b0; rw [c138b0] at h_; simpa using h_))
     (try (have c136t : (t297.toList == t299.toList) = false := by have h_ := c136b0; rw [c138b0] at h_; simpa using h_))
     have c136d0 : (t297.toList == t299.toList) = false := by have h_ := eq_of_beq c136b0; rw [c138b0] at h_; exact h_.symm
     (try (have c136d1 : (t297.toList = t299.toList) = False := eq_false (by simpa using c136d0)))
     have c138b1 : (t325 != 0) = true := bne_iff_ne.mpr c138
     by_cases c146 : ((decide (t325 < 0)) == (Op.bytesLess ((js34).toList) ((js40).toList))) = true
     rotate_left
     ·rw [if_neg c146] at H
      exact absurd H (by simp)
     rw [if_pos c146] at H
     have c146b0 : ((decide (t325 < 0)) == (Op.bytesLess ((js34).toList) ((js40).toList))) = true := c146
     (try (have c146b1 : decide ((decide (t325 < 0)) = (Op.bytesLess ((js34).toList) ((js40).toList))) = true := by simpa using c146))
     (try (have c146b2 : ((decide (t325 < 0)) == (Op.bytesLess ((js34).toList) ((js40).toList))) = true := by simpa using c146))
     clear c146
     replace H := bM H
     obtain ⟨t328, A1470, H⟩ := H
     replace H : (if t328 = (wrap64 (-t325)) then ((withylaw04_fixed.f kj7).bind fun t329 => (some t329)) else (none)) = some r := H
     have A147 := Aside0.mk A1470
     clear A1470
     by_cases c148 : t328 = (wrap64 (-t325))
     rotate_left
     ·rw [if_neg c148] at H
      exact absurd H (by simp)
     rw [if_pos c148] at H
     have c148b0 : (t328 == (wrap64 (-t325))) = true := beq_iff_eq.mpr c148
     have c148b1 : (t328 != (wrap64 (-t325))) = false := bne_eq_false_iff_eq.mpr c148
     clear c148
     replace H := bM H
     obtain ⟨t329, A1490, H⟩ := H
     replace H : (some t329) = some r := H
     have A149 := Aside0.mk A1490
     clear A1490
     obtain rfl := Option.some.inj H
     obtain ⟨hcz150_0, hcz150_1⟩ := zc2 BK290
     obtain ⟨hfz150_0, hfz150_1⟩ := zf2 BK290
     go_wp2_with (first | (go_at_call 18; (with_reducible refine (key_Compare.calls kj7 _ _ t291 _ _ t294 t325 _ ?side1 ?side2 ?side3 ?side4 A134.out).mono ?_); (case side1 => repeat (first | exact (Kd.R_reads' HO_0.out).2.2 | (with_reducible refine Kd.C_alloc ?_ _) | (with_reducible refine Kd.C_drewN ?_ _) | (with_reducible refine Kd.C_drew ?_))); (case side2 => exact (Kd.R_reads' HO_0.out).2.1); (case side3 => repeat (first | exact (Kd.R_reads' HO_1.out).2.2 | (with_reducible refine Kd.C_alloc ?_ _) | (with_reducible refine Kd.C_drewN ?_ _) | (with_reducible refine Kd.C_drew ?_))); (case side4 => exact (Kd.R_reads' HO_1.out).2.1); rintro e w151 ⟨rfl, hb⟩; replace HO_0 := as_ (Kd.R_below (by (with_reducible repeat (first | apply Kd.R_alloc | apply Kd.R_drewN | apply Kd.R_drew)); exact HO_0.out) hb); replace HO_1 := as_ (Kd.R_below (by (with_reducible repeat (first | apply Kd.R_alloc | apply Kd.R_drewN | apply Kd.R_drew)); exact HO_1.out) hb); replace BK290 := bb BK290 hb; replace HB := as_ (below_step bA hb); (try clear hb); (try clear hb2); (try clear hk); (try clear hi)) | (go_at_call 18; (with_reducible refine (key_Compare.calls kj7 _ _ t294 _ _ t291 t328 _ ?side1 ?side2 ?side3 ?side4 A147.out).mono ?_); (case side1 => repeat (first | exact (Kd.R_reads' HO_1.out).2.2 | (with_reducible refine Kd.C_alloc ?_ _) | (with_reducible refine Kd.C_drewN ?_ _) | (with_reducible refine Kd.C_drew ?_))); (case side2 => exact (Kd.R_reads' HO_1.out).2.1); (case side3 => repeat (first | exact (Kd.R_reads' HO_0.out).2.2 | (with_reducible refine Kd.C_alloc ?_ _) | (with_reducible refine Kd.C_drewN ?_ _) | (with_reducible refine Kd.C_drew ?_))); (case side4 => exact (Kd.R_reads' HO_0.out).2.1); rintro e w152 ⟨rfl, hb⟩; replace HO_0 := as_ (Kd.R_below (by (with_reducible repeat (first | apply Kd.R_alloc | apply Kd.R_drewN | apply Kd.R_drew)); exact HO_0.out) hb); replace HO_1 := as_ (Kd.R_below (by (with_reducible repeat (first | apply Kd.R_alloc | apply Kd.R_drewN | apply Kd.R_drew)); exact HO_1.out) hb); replace BK290 := bb BK290 hb; replace HB := as_ (below_step bA hb); (try clear hb); (try clear hb2); (try clear hk); (try clear hi)) | (go_at_call 21; (with_reducible refine (withylaw04_fixed.calls kj7  t329 _ A149.out).mono ?_); rintro e w153 ⟨rfl, hb⟩; replace HO_0 := as_ (Kd.R_below (by (with_reducible repeat (first | apply Kd.R_alloc | apply Kd.R_drewN | apply Kd.R_drew)); exact HO_0.out) hb); replace HO_1 := as_ (Kd.R_below (by (with_reducible repeat (first | apply Kd.R_alloc | apply Kd.R_drewN | apply Kd.R_drew)); exact HO_1.out) hb); replace BK290 := bb BK290 hb; replace HB := as_ (below_step bA hb); (try clear hb); (try clear hb2); (try clear hk); (try clear hi)))
     repeat (go_quiet (first | (go_at_call 18; (with_reducible refine (key_Compare.calls kj7 _ _ t291 _ _ t294 t325 _ ?side1 ?side2 ?side3 ?side4 A134.out).mono ?_); (case side1 => repeat (first | exact (Kd.R_reads' HO_0.out).2.2 | (with_reducible refine Kd.C_alloc ?_ _) | (with_reducible refine Kd.C_drewN ?_ _) | (with_reducible refine Kd.C_drew ?_))); (case side2 => exact (Kd.R_reads' HO_0.out).2.1); (case side3 => repeat (first | exact (Kd.R_reads' HO_1.out).2.2 | (with_reducible refine Kd.C_alloc ?_ _) | (with_reducible refine Kd.C_drewN ?_ _) | (with_reducible refine Kd.C_drew ?_))); (case side4 => exact (Kd.R_reads' HO_1.out).2.1); rintro e w151 ⟨rfl, hb⟩; replace HO_0 := as_ (Kd.R_below (by (with_reducible repeat (first | apply Kd.R_alloc | apply Kd.R_drewN | apply Kd.R_drew)); exact HO_0.out) hb); replace HO_1 := as_ (Kd.R_below (by (with_reducible repeat (first | apply Kd.R_alloc | apply Kd.R_drewN | apply Kd.R_drew)); exact HO_1.out) hb); replace BK290 := bb BK290 hb; replace HB := as_ (below_step bA hb); (try clear hb); (try clear hb2); (try clear hk); (try clear hi)) | (go_at_call 18; (with_reducible refine (key_Compare.calls kj7 _ _ t294 _ _ t291 t328 _ ?side1 ?side2 ?side3 ?side4 A147.out).mono ?_); (case side1 => repeat (first | exact (Kd.R_reads' HO_1.out).2.2 | (with_reducible refine Kd.C_alloc ?_ _) | (with_reducible refine Kd.C_drewN ?_ _) | (with_reducible refine Kd.C_drew ?_))); (case side2 => exact (Kd.R_reads' HO_1.out).2.1); (case side3 => repeat (first | exact (Kd.R_reads' HO_0.out).2.2 | (with_reducible refine Kd.C_alloc ?_ _) | (with_reducible refine Kd.C_drewN ?_ _) | (with_reducible refine Kd.C_drew ?_))); (case side4 => exact (Kd.R_reads' HO_0.out).2.1); rintro e w152 ⟨rfl, hb⟩; replace HO_0 := as_ (Kd.R_below (by (with_reducible repeat (first | apply Kd.R_alloc | apply Kd.R_drewN | apply Kd.R_drew)); exact HO_0.out) hb); replace HO_1 := as_ (Kd.R_below (by (with_reducible repeat (first | apply Kd.R_alloc | apply Kd.R_drewN | apply Kd.R_drew)); exact HO_1.out) hb); replace BK290 := bb BK290 hb; replace HB := as_ (below_step bA hb); (try clear hb); (try clear hb2); (try clear hk); (try clear hi)) | (go_at_call 21; (with_reducible refine (withylaw04_fixed.calls kj7  t329 _ A149.out).mono ?_); rintro e w153 ⟨rfl, hb⟩; replace HO_0 := as_ (Kd.R_below (by (with_reducible repeat (first | apply Kd.R_alloc | apply Kd.R_drewN | apply Kd.R_drew)); exact HO_0.out) hb); replace HO_1 := as_ (Kd.R_below (by (with_reducible repeat (first | apply Kd.R_alloc | apply Kd.R_drewN | apply Kd.R_drew)); exact HO_1.out) hb); replace BK290 := bb BK290 hb; replace HB := as_ (below_step bA hb); (try clear hb); (try clear hb2); (try clear hk); (try clear hi))); try go_wp2_with (first | (go_at_call 18; (with_reducible refine (key_Compare.calls kj7 _ _ t291 _ _ t294 t325 _ ?side1 ?side2 ?side3 ?side4 A134.out).mono ?_); (case side1 => repeat (first | exact (Kd.R_reads' HO_0.out).2.2 | (with_reducible refine Kd.C_alloc ?_ _) | (with_reducible refine Kd.C_drewN ?_ _) | (with_reducible refine Kd.C_drew ?_))); (case side2 => exact (Kd.R_reads' HO_0.out).2.1); (case side3 => repeat (first | exact (Kd.R_reads' HO_1.out).2.2 | (with_reducible refine Kd.C_alloc ?_ _) | (with_reducible refine Kd.C_drewN ?_ _) | (with_reducible refine Kd.C_drew ?_))); (case side4 => exact (Kd.R_reads' HO_1.out).2.1); rintro e w151 ⟨rfl, hb⟩; replace HO_0 := as_ (Kd.R_below (by (with_reducible repeat (first | apply Kd.R_alloc | apply Kd.R_drewN | apply Kd.R_drew)); exact HO_0.out) hb); replace HO_1 := as_ (Kd.R_below (by (with_reducible repeat (first | apply Kd.R_alloc | apply Kd.R_drewN | apply Kd.R_drew)); exact HO_1.out) hb); replace BK290 := bb BK290 hb; replace HB := as_ (below_step bA hb); (try clear hb); (try clear hb2); (try clear hk); (try clear hi)) | (go_at_call 18; (with_reducible refine (key_Compare.calls kj7 _ _ t294 _ _ t291 t328 _ ?side1 ?side2 ?side3 ?side4 A147.out).mono ?_); (case side1 => repeat (first | exact (Kd.R_reads' HO_1.out).2.2 | (with_reducible refine Kd.C_alloc ?_ _) | (with_reducible refine Kd.C_drewN ?_ _) | (with_reducible refine Kd.C_drew ?_))); (case side2 => exact (Kd.R_reads' HO_1.out).2.1); (case side3 => repeat (first | exact (Kd.R_reads' HO_0.out).2.2 | (with_reducible refine Kd.C_alloc ?_ _) | (with_reducible refine Kd.C_drewN ?_ _) | (with_reducible refine Kd.C_drew ?_))); (case side4 => exact (Kd.R_reads' HO_0.out).2.1); rintro e w152 ⟨rfl, hb⟩; replace HO_0 := as_ (Kd.R_below (by (with_reducible repeat (first | apply Kd.R_alloc | apply Kd.R_drewN | apply Kd.R_drew)); exact HO_0.out) hb); replace HO_1 := as_ (Kd.R_below (by (with_reducible repeat (first | apply Kd.R_alloc | apply Kd.R_drewN | apply Kd.R_drew)); exact HO_1.out) hb); replace BK290 := bb BK290 hb; replace HB := as_ (below_step bA hb); (try clear hb); (try clear hb2); (try clear hk); (try clear hi)) | (go_at_call 21; (with_reducible refine (withylaw04_fixed.calls kj7  t329 _ A149.out).mono ?_); rintro e w153 ⟨rfl, hb⟩; replace HO_0 := as_ (Kd.R_below (by (with_reducible repeat (first | apply Kd.R_alloc | apply Kd.R_drewN | apply Kd.R_drew)); exact HO_0.out) hb); replace HO_1 := as_ (Kd.R_below (by (with_reducible repeat (first | apply Kd.R_alloc | apply Kd.R_drewN | apply Kd.R_drew)); exact HO_1.out) hb); replace BK290 := bb BK290 hb; replace HB := as_ (below_step bA hb); (try clear hb); (try clear hb2); (try clear hk); (try clear hi))))
     go_ret
     exact ⟨by first | rfl | (simp [errW_none, errW_some] <;> rfl) | (simp only [← hji29, ← hjs32, ← hjs34, ← hji35, ← hjs38, ← hjs40]; first | rfl | (simp [errW_none, errW_some] <;> rfl)) | (simp [*, errW_none, errW_some] <;> rfl), by repeat (first | (with_reducible first | exact HB.out | apply below_alloc | apply pw_below_drewN | apply below_drew1 | refine below_set ?_ GE290.out) | exact HB.out)⟩
    rw [if_pos c110] at H
    have c110b0 : decide ((t299.size : Int) ≤ (t297.size : Int)) = true := decide_eq_true c110
    have c110b1 : decide (t299.size ≤ t297.size) = true := decide_eq_true (Int.ofNat_le.mp c110)
    clear c110
    by_cases c111 : 0 ≤ (t299.size : Int)
    rotate_left
    ·rw [if_neg c111] at H
     exact absurd H (by simp)
    rw [if_pos c111] at H
    have c111b0 := eq_true c111
    have c111b1 : decide (0 ≤ (t299.size : Int)) = true := decide_eq_true c111
    clear c111
    have c112b0 := eq_true (of_decide_eq_true aM : (t299.size : Int) ≤ (t297.size : Int))
    obtain ⟨js113, hjs113⟩ : ∃ j_ : ByteArray, (t297.extract 0 t299.size) = j_ := ⟨_, rfl⟩
    replace H : ((key_Compare.f kj7 t291 t294).bind fun t320 => (if ((decide (t320 < 0)) == (Op.bytesLess t297.toList t299.toList)) = true then (if ((t320 == 0) == (t297.toList == t299.toList)) = true then (if (((js113).toList == t299.toList) == (t320 == 0)) = true then (if t320 = 0 then ((key_Compare.f kj7 t294 t291).bind fun t321 => (if t321 = (wrap64 (-t320)) then ((withylaw04_fixed.f kj7).bind fun t322 => (some t322)) else (none))) else (if ((decide (t320 < 0)) == (Op.bytesLess ((js34).toList) ((js40).toList))) = true then ((key_Compare.f kj7 t294 t291).bind fun t323 => (if t323 = (wrap64 (-t320)) then ((withylaw04_fixed.f kj7).bind fun t324 => (some t324)) else (none))) else (none))) else (none)) else (none)) else (none))) = some r := by first | (rw [hjs113] at H; exact H) | (simp only [hjs113] at H ⊢; exact H)
    replace H := bM H
    obtain ⟨t320, A1140, H⟩ := H
    replace H : (if ((decide (t320 < 0)) == (Op.bytesLess t297.toList t299.toList)) = true then (if ((t320 == 0) == (t297.toList == t299.toList)) = true then (if (((js113).toList == t299.toList) == (t320 == 0)) = true then (if t320 = 0 then ((key_Compare.f kj7 t294 t291).bind fun t321 => (if t321 = (wrap64 (-t320)) then ((withylaw04_fixed.f kj7).bind fun t322 => (some t322)) else (none))) else (if ((decide (t320 < 0)) == (Op.bytesLess ((js34).toList) ((js40).toList))) = true then ((key_Compare.f kj7 t294 t291).bind fun t323 => (if t323 = (wrap64 (-t320)) then ((withylaw04_fixed.f kj7).bind fun t324 => (some t324)) else (none))) else (none))) else (none)) else (none)) else (none)) = some r := H
    have A114 := Aside0.mk A1140
    clear A1140
    by_cases c115 : ((decide (t320 < 0)) == (Op.bytesLess t297.toList t299.toList)) = true
    rotate_left
    ·rw [if_neg c115] at H
     exact absurd H (by simp)
    rw [if_pos c115] at H
    have c115b0 : ((decide (t320 < 0)) == (Op.bytesLess t297.toList t299.toList)) = true := c115
    (try (have c115b1 : decide ((decide (t320 < 0)) = (Op.bytesLess t297.toList t299.toList)) = true := by simpa using c115))
    (try (have c115b2 : ((decide (t320 < 0)) == (Op.bytesLess t297.toList t299.toList)) = true := by simpa using c115))
    clear c115
    by_cases c116 : ((t320 == 0) == (t297.toList == t299.toList)) = true
    rotate_left
    ·rw [if_neg c116] at H
     exact absurd H (by simp)
    rw [if_pos c116] at H
    have c116b0 : ((t320 == 0) == (t297.toList == t299.toList)) = true := c116
    (try (have c116b1 : decide ((t320 == 0) = (t297.toList == t299.toList)) = true := by simpa using c116))
    (try (have c116b2 : ((t320 == 0) == (t297.toList == t299.toList)) = true := by simpa using c116))
    clear c116
    by_cases c117 : (((js113).toList == t299.toList) == (t320 == 0)) = true
    rotate_left
    ·rw [if_neg c117] at H
     exact absurd H (by simp)
    rw [if_pos c117] at H
    have c117b0 : (((js113).toList == t299.toList) == (t320 == 0)) = true := c117
    (try (have c117b1 : decide (((js113).toList == t299.toList) = (t320 == 0)) = true := by simpa using c117))
    (try (have c117b2 : (((js113).toList == t299.toList) == (t320 == 0)) = true := by simpa using c117))
    clear c117
    by_cases c118 : t320 = 0
    ·rw [if_pos c118] at H
     have c118b0 : (t320 == 0) = true := beq_iff_eq.mpr c118
     (try (have c116u : decide (t297.toList = t299.toList) = true := by have h_ := c116b0; rw [c118b0] at h_; simpa using h_))
     (try (have c116t : (t297.toList == t299.toList) = true := by have h_ := c116b0; rw [c118b0] at h_; simpa using h_))
     (try (have c116u : decide (t297.toList = t299.toList) = false := by have h_ := c116b0; rw [c118b0] at h_; simpa using h_))
     (try (have c116t : (t297.toList == t299.toList) = false := by have h_ := c116b0; rw [c118b0] at h_; simpa using h_))
     have c116d0 : (t297.toList == t299.toList) = true := by have h_ := eq_of_beq c116b0; rw [c118b0] at h_; exact h_.symm
     (try (have c116d1 : (t297.toList = t299.toList) = True := eq_true (by simpa using c116d0)))
     have c117d0 : ((js113).toList == t299.toList) = true := by have h_ := eq_of_beq c117b0; rw [c118b0] at h_; exact h_
     (try (have c117d1 : (js113.toList = t299.toList) = True := eq_true (by simpa using c117d0)))
     have c118b1 : (t320 != 0) = false := bne_eq_false_iff_eq.mpr c118
     clear c118
     replace H := bM H
     obtain ⟨t321, A1190, H⟩ := H
     replace H : (if t321 = (wrap64 (-t320)) then ((withylaw04_fixed.f kj7).bind fun t322 => (some t322)) else (none)) = some r := H
     have A119 := Aside0.mk A1190
     clear A1190
     by_cases c120 : t321 = (wrap64 (-t320))
     rotate_left
     ·rw [if_neg c120] at H
      exact absurd H (by simp)
     rw [if_pos c120] at H
     have c120b0 : (t321 == (wrap64 (-t320))) = true := beq_iff_eq.mpr c120
     have c120b1 : (t321 != (wrap64 (-t320))) = false := bne_eq_false_iff_eq.mpr c120
     clear c120
     replace H := bM H
     obtain ⟨t322, A1210, H⟩ := H
     replace H : (some t322) = some r := H
     have A121 := Aside0.mk A1210
     clear A1210
     obtain rfl := Option.some.inj H
     obtain ⟨hcz122_0, hcz122_1⟩ := zc2 BK290
     obtain ⟨hfz122_0, hfz122_1⟩ := zf2 BK290
     go_wp2_with (first | (go_at_call 18; (with_reducible refine (key_Compare.calls kj7 _ _ t291 _ _ t294 t320 _ ?side1 ?side2 ?side3 ?side4 A114.out).mono ?_); (case side1 => repeat (first | exact (Kd.R_reads' HO_0.out).2.2 | (with_reducible refine Kd.C_alloc ?_ _) | (with_reducible refine Kd.C_drewN ?_ _) | (with_reducible refine Kd.C_drew ?_))); (case side2 => exact (Kd.R_reads' HO_0.out).2.1); (case side3 => repeat (first | exact (Kd.R_reads' HO_1.out).2.2 | (with_reducible refine Kd.C_alloc ?_ _) | (with_reducible refine Kd.C_drewN ?_ _) | (with_reducible refine Kd.C_drew ?_))); (case side4 => exact (Kd.R_reads' HO_1.out).2.1); rintro e w123 ⟨rfl, hb⟩; replace HO_0 := as_ (Kd.R_below (by (with_reducible repeat (first | apply Kd.R_alloc | apply Kd.R_drewN | apply Kd.R_drew)); exact HO_0.out) hb); replace HO_1 := as_ (Kd.R_below (by (with_reducible repeat (first | apply Kd.R_alloc | apply Kd.R_drewN | apply Kd.R_drew)); exact HO_1.out) hb); replace BK290 := bb BK290 hb; replace HB := as_ (below_step bA hb); (try clear hb); (try clear hb2); (try clear hk); (try clear hi)) | (go_at_call 18; (with_reducible refine (key_Compare.calls kj7 _ _ t294 _ _ t291 t321 _ ?side1 ?side2 ?side3 ?side4 A119.out).mono ?_); (case side1 => repeat (first | exact (Kd.R_reads' HO_1.out).2.2 | (with_reducible refine Kd.C_alloc ?_ _) | (with_reducible refine Kd.C_drewN ?_ _) | (with_reducible refine Kd.C_drew ?_))); (case side2 => exact (Kd.R_reads' HO_1.out).2.1); (case side3 => repeat (first | exact (Kd.R_reads' HO_0.out).2.2 | (with_reducible refine Kd.C_alloc ?_ _) | (with_reducible refine Kd.C_drewN ?_ _) | (with_reducible refine Kd.C_drew ?_))); (case side4 => exact (Kd.R_reads' HO_0.out).2.1); rintro e w124 ⟨rfl, hb⟩; replace HO_0 := as_ (Kd.R_below (by (with_reducible repeat (first | apply Kd.R_alloc | apply Kd.R_drewN | apply Kd.R_drew)); exact HO_0.out) hb); replace HO_1 := as_ (Kd.R_below (by (with_reducible repeat (first | apply Kd.R_alloc | apply Kd.R_drewN | apply Kd.R_drew)); exact HO_1.out) hb); replace BK290 := bb BK290 hb; replace HB := as_ (below_step bA hb); (try clear hb); (try clear hb2); (try clear hk); (try clear hi)) | (go_at_call 21; (with_reducible refine (withylaw04_fixed.calls kj7  t322 _ A121.out).mono ?_); rintro e w125 ⟨rfl, hb⟩; replace HO_0 := as_ (Kd.R_below (by (with_reducible repeat (first | apply Kd.R_alloc | apply Kd.R_drewN | apply Kd.R_drew)); exact HO_0.out) hb); replace HO_1 := as_ (Kd.R_below (by (with_reducible repeat (first | apply Kd.R_alloc | apply Kd.R_drewN | apply Kd.R_drew)); exact HO_1.out) hb); replace BK290 := bb BK290 hb; replace HB := as_ (below_step bA hb); (try clear hb); (try clear hb2); (try clear hk); (try clear hi)))
     repeat (go_quiet (first | (go_at_call 18; (with_reducible refine (key_Compare.calls kj7 _ _ t291 _ _ t294 t320 _ ?side1 ?side2 ?side3 ?side4 A114.out).mono ?_); (case side1 => repeat (first | exact (Kd.R_reads' HO_0.out).2.2 | (with_reducible refine Kd.C_alloc ?_ _) | (with_reducible refine Kd.C_drewN ?_ _) | (with_reducible refine Kd.C_drew ?_))); (case side2 => exact (Kd.R_reads' HO_0.out).2.1); (case side3 => repeat (first | exact (Kd.R_reads' HO_1.out).2.2 | (with_reducible refine Kd.C_alloc ?_ _) | (with_reducible refine Kd.C_drewN ?_ _) | (with_reducible refine Kd.C_drew ?_))); (case side4 => exact (Kd.R_reads' HO_1.out).2.1); rintro e w123 ⟨rfl, hb⟩; replace HO_0 := as_ (Kd.R_below (by (with_reducible repeat (first | apply Kd.R_alloc | apply Kd.R_drewN | apply Kd.R_drew)); exact HO_0.out) hb); replace HO_1 := as_ (Kd.R_below (by (with_reducible repeat (first | apply Kd.R_alloc | apply Kd.R_drewN | apply Kd.R_drew)); exact HO_1.out) hb); replace BK290 := bb BK290 hb; replace HB := as_ (below_step bA hb); (try clear hb); (try clear hb2); (try clear hk); (try clear hi)) | (go_at_call 18; (with_reducible refine (key_Compare.calls kj7 _ _ t294 _ _ t291 t321 _ ?side1 ?side2 ?side3 ?side4 A119.out).mono ?_); (case side1 => repeat (first | exact (Kd.R_reads' HO_1.out).2.2 | (with_reducible refine Kd.C_alloc ?_ _) | (with_reducible refine Kd.C_drewN ?_ _) | (with_reducible refine Kd.C_drew ?_))); (case side2 => exact (Kd.R_reads' HO_1.out).2.1); (case side3 => repeat (first | exact (Kd.R_reads' HO_0.out).2.2 | (with_reducible refine Kd.C_alloc ?_ _) | (with_reducible refine Kd.C_drewN ?_ _) | (with_reducible refine Kd.C_drew ?_))); (case side4 => exact (Kd.R_reads' HO_0.out).2.1); rintro e w124 ⟨rfl, hb⟩; replace HO_0 := as_ (Kd.R_below (by (with_reducible repeat (first | apply Kd.R_alloc | apply Kd.R_drewN | apply Kd.R_drew)); exact HO_0.out) hb); replace HO_1 := as_ (Kd.R_below (by (with_reducible repeat (first | apply Kd.R_alloc | apply Kd.R_drewN | apply Kd.R_drew)); exact HO_1.out) hb); replace BK290 := bb BK290 hb; replace HB := as_ (below_step bA hb); (try clear hb); (try clear hb2); (try clear hk); (try clear hi)) | (go_at_call 21; (with_reducible refine (withylaw04_fixed.calls kj7  t322 _ A121.out).mono ?_); rintro e w125 ⟨rfl, hb⟩; replace HO_0 := as_ (Kd.R_below (by (with_reducible repeat (first | apply Kd.R_alloc | apply Kd.R_drewN | apply Kd.R_drew)); exact HO_0.out) hb); replace HO_1 := as_ (Kd.R_below (by (with_reducible repeat (first | apply Kd.R_alloc | apply Kd.R_drewN | apply Kd.R_drew)); exact HO_1.out) hb); replace BK290 := bb BK290 hb; replace HB := as_ (below_step bA hb); (try clear hb); (try clear hb2); (try clear hk); (try clear hi))); try go_wp2_with (first | (go_at_call 18; (with_reducible refine (key_Compare.calls kj7 _ _ t291 _ _ t294 t320 _ ?side1 ?side2 ?side3 ?side4 A114.out).mono ?_); (case side1 => repeat (first | exact (Kd.R_reads' HO_0.out).2.2 | (with_reducible refine Kd.C_alloc ?_ _) | (with_reducible refine Kd.C_drewN ?_ _) | (with_reducible refine Kd.C_drew ?_))); (case side2 => exact (Kd.R_reads' HO_0.out).2.1); (case side3 => repeat (first | exact (Kd.R_reads' HO_1.out).2.2 | (with_reducible refine Kd.C_alloc ?_ _) | (with_reducible refine Kd.C_drewN ?_ _) | (with_reducible refine Kd.C_drew ?_))); (case side4 => exact (Kd.R_reads' HO_1.out).2.1); rintro e w123 ⟨rfl, hb⟩; replace HO_0 := as_ (Kd.R_below (by (with_reducible repeat (first | apply Kd.R_alloc | apply Kd.R_drewN | apply Kd.R_drew)); exact HO_0.out) hb); replace HO_1 := as_ (Kd.R_below (by (with_reducible repeat (first | apply Kd.R_alloc | apply Kd.R_drewN | apply Kd.R_drew)); exact HO_1.out) hb); replace BK290 := bb BK290 hb; replace HB := as_ (below_step bA hb); (try clear hb); (try clear hb2); (try clear hk); (try clear hi)) | (go_at_call 18; (with_reducible refine (key_Compare.calls kj7 _ _ t294 _ _ t291 t321 _ ?side1 ?side2 ?side3 ?side4 A119.out).mono ?_); (case side1 => repeat (first | exact (Kd.R_reads' HO_1.out).2.2 | (with_reducible refine Kd.C_alloc ?_ _) | (with_reducible refine Kd.C_drewN ?_ _) | (with_reducible refine Kd.C_drew ?_))); (case side2 => exact (Kd.R_reads' HO_1.out).2.1); (case side3 => repeat (first | exact (Kd.R_reads' HO_0.out).2.2 | (with_reducible refine Kd.C_alloc ?_ _) | (with_reducible refine Kd.C_drewN ?_ _) | (with_reducible refine Kd.C_drew ?_))); (case side4 => exact (Kd.R_reads' HO_0.out).2.1); rintro e w124 ⟨rfl, hb⟩; replace HO_0 := as_ (Kd.R_below (by (with_reducible repeat (first | apply Kd.R_alloc | apply Kd.R_drewN | apply Kd.R_drew)); exact HO_0.out) hb); replace HO_1 := as_ (Kd.R_below (by (with_reducible repeat (first | apply Kd.R_alloc | apply Kd.R_drewN | apply Kd.R_drew)); exact HO_1.out) hb); replace BK290 := bb BK290 hb; replace HB := as_ (below_step bA hb); (try clear hb); (try clear hb2); (try clear hk); (try clear hi)) | (go_at_call 21; (with_reducible refine (withylaw04_fixed.calls kj7  t322 _ A121.out).mono ?_); rintro e w125 ⟨rfl, hb⟩; replace HO_0 := as_ (Kd.R_below (by (with_reducible repeat (first | apply Kd.R_alloc | apply Kd.R_drewN | apply Kd.R_drew)); exact HO_0.out) hb); replace HO_1 := as_ (Kd.R_below (by (with_reducible repeat (first | apply Kd.R_alloc | apply Kd.R_drewN | apply Kd.R_drew)); exact HO_1.out) hb); replace BK290 := bb BK290 hb; replace HB := as_ (below_step bA hb); (try clear hb); (try clear hb2); (try clear hk); (try clear hi))))
     go_ret
     exact ⟨by first | rfl | (simp [errW_none, errW_some] <;> rfl) | (simp only [← hji29, ← hjs32, ← hjs34, ← hji35, ← hjs38, ← hjs40, ← hjs113]; first | rfl | (simp [errW_none, errW_some] <;> rfl)) | (simp [*, errW_none, errW_some] <;> rfl), by repeat (first | (with_reducible first | exact HB.out | apply below_alloc | apply pw_below_drewN | apply below_drew1 | refine below_set ?_ GE290.out) | exact HB.out)⟩
    rw [if_neg c118] at H
    have c118b0 : (t320 == 0) = false := beq_eq_false_iff_ne.mpr c118
    (try (have c116u : decide (t297.toList = t299.toList) = true := by have h_ := c116b0; rw [c118b0] at h_; simpa using h_))
    (try (have c116t : (t297.toList == t299.toList) = true := by have h_ := c116b0; rw [c118b0] at h_; simpa using h_))
    (try (have c116u : decide (t297.toList = t299.toList) = false := by have h_ := c116b0; rw [c118b0] at h_; simpa using h_))
    (try (have c116t : (t297.toList == t299.toList) = false := by have h_ := c116b0; rw [c118b0] at h_; simpa using h_))
    have c116d0 : (t297.toList == t299.toList) = false := by have h_ := eq_of_beq c116b0; rw [c118b0] at h_; exact h_.symm
    (try (have c116d1 : (t297.toList = t299.toList) = False := eq_false (by simpa using c116d0)))
    have c117d0 : ((js113).toList == t299.toList) = false := by have h_ := eq_of_beq c117b0; rw [c118b0] at h_; exact h_
    (try (have c117d1 : (js113.toList = t299.toList) = False := eq_false (by simpa using c117d0)))
    have c118b1 : (t320 != 0) = true := bne_iff_ne.mpr c118
    by_cases c126 : ((decide (t320 < 0)) == (Op.bytesLess ((js34).toList) ((js40).toList))) = true
    rotate_left
    ·rw [if_neg c126] at H
     exact absurd H (by simp)
    rw [if_pos c126] at H
    have c126b0 : ((decide (t320 < 0)) == (Op.bytesLess ((js34).toList) ((js40).toList))) = true := c126
    (try (have c126b1 : decide ((decide (t320 < 0)) = (Op.bytesLess ((js34).toList) ((js40).toList))) = true := by simpa using c126))
    (try (have c126b2 : ((decide (t320 < 0)) == (Op.bytesLess ((js34).toList) ((js40).toList))) = true := by simpa using c126))
    clear c126
    replace H := bM H
    obtain ⟨t323, A1270, H⟩ := H
    replace H : (if t323 = (wrap64 (-t320)) then ((withylaw04_fixed.f kj7).bind fun t324 => (some t324)) else (none)) = some r := H
    have A127 := Aside0.mk A1270
    clear A1270
    by_cases c128 : t323 = (wrap64 (-t320))
    rotate_left
    ·rw [if_neg c128] at H
     exact absurd H (by simp)
    rw [if_pos c128] at H
    have c128b0 : (t323 == (wrap64 (-t320))) = true := beq_iff_eq.mpr c128
    have c128b1 : (t323 != (wrap64 (-t320))) = false := bne_eq_false_iff_eq.mpr c128
    clear c128
    replace H := bM H
    obtain ⟨t324, A1290, H⟩ := H
    replace H : (some t324) = some r := H
    have A129 := Aside0.mk A1290
    clear A1290
    obtain rfl := Option.some.inj H
    obtain ⟨hcz130_0, hcz130_1⟩ := zc2 BK290
    obtain ⟨hfz130_0, hfz130_1⟩ := zf2 BK290
    go_wp2_with (first | (go_at_call 18; (with_reducible refine (key_Compare.calls kj7 _ _ t291 _ _ t294 t320 _ ?side1 ?side2 ?side3 ?side4 A114.out).mono ?_); (case side1 => repeat (first | exact (Kd.R_reads' HO_0.out).2.2 | (with_reducible refine Kd.C_alloc ?_ _) | (with_reducible refine Kd.C_drewN ?_ _) | (with_reducible refine Kd.C_drew ?_))); (case side2 => exact (Kd.R_reads' HO_0.out).2.1); (case side3 => repeat (first | exact (Kd.R_reads' HO_1.out).2.2 | (with_reducible refine Kd.C_alloc ?_ _) | (with_reducible refine Kd.C_drewN ?_ _) | (with_reducible refine Kd.C_drew ?_))); (case side4 => exact (Kd.R_reads' HO_1.out).2.1); rintro e w131 ⟨rfl, hb⟩; replace HO_0 := as_ (Kd.R_below (by (with_reducible repeat (first | apply Kd.R_alloc | apply Kd.R_drewN | apply Kd.R_drew)); exact HO_0.out) hb); replace HO_1 := as_ (Kd.R_below (by (with_reducible repeat (first | apply Kd.R_alloc | apply Kd.R_drewN | apply Kd.R_drew)); exact HO_1.out) hb); replace BK290 := bb BK290 hb; replace HB := as_ (below_step bA hb); (try clear hb); (try clear hb2); (try clear hk); (try clear hi)) | (go_at_call 18; (with_reducible refine (key_Compare.calls kj7 _ _ t294 _ _ t291 t323 _ ?side1 ?side2 ?side3 ?side4 A127.out).mono ?_); (case side1 => repeat (first | exact (Kd.R_reads' HO_1.out).2.2 | (with_reducible refine Kd.C_alloc ?_ _) | (with_reducible refine Kd.C_drewN ?_ _) | (with_reducible refine Kd.C_drew ?_))); (case side2 => exact (Kd.R_reads' HO_1.out).2.1); (case side3 => repeat (first | exact (Kd.R_reads' HO_0.out).2.2 | (with_reducible refine Kd.C_alloc ?_ _) | (with_reducible refine Kd.C_drewN ?_ _) | (with_reducible refine Kd.C_drew ?_))); (case side4 => exact (Kd.R_reads' HO_0.out).2.1); rintro e w132 ⟨rfl, hb⟩; replace HO_0 := as_ (Kd.R_below (by (with_reducible repeat (first | apply Kd.R_alloc | apply Kd.R_drewN | apply Kd.R_drew)); exact HO_0.out) hb); replace HO_1 := as_ (Kd.R_below (by (with_reducible repeat (first | apply Kd.R_alloc | apply Kd.R_drewN | apply Kd.R_drew)); exact HO_1.out) hb); replace BK290 := bb BK290 hb; replace HB := as_ (below_step bA hb); (try clear hb); (try clear hb2); (try clear hk); (try clear hi)) | (go_at_call 21; (with_reducible refine (withylaw04_fixed.calls kj7  t324 _ A129.out).mono ?_); rintro e w133 ⟨rfl, hb⟩; replace HO_0 := as_ (Kd.R_below (by (with_reducible repeat (first | apply Kd.R_alloc | apply Kd.R_drewN | apply Kd.R_drew)); exact HO_0.out) hb); replace HO_1 := as_ (Kd.R_below (by (with_reducible repeat (first | apply Kd.R_alloc | apply Kd.R_drewN | apply Kd.R_drew)); exact HO_1.out) hb); replace BK290 := bb BK290 hb; replace HB := as_ (below_step bA hb); (try clear hb); (try clear hb2); (try clear hk); (try clear hi)))
    repeat (go_quiet (first | (go_at_call 18; (with_reducible refine (key_Compare.calls kj7 _ _ t291 _ _ t294 t320 _ ?side1 ?side2 ?side3 ?side4 A114.out).mono ?_); (case side1 => repeat (first | exact (Kd.R_reads' HO_0.out).2.2 | (with_reducible refine Kd.C_alloc ?_ _) | (with_reducible refine Kd.C_drewN ?_ _) | (with_reducible refine Kd.C_drew ?_))); (case side2 => exact (Kd.R_reads' HO_0.out).2.1); (case side3 => repeat (first | exact (Kd.R_reads' HO_1.out).2.2 | (with_reducible refine Kd.C_alloc ?_ _) | (with_reducible refine Kd.C_drewN ?_ _) | (with_reducible refine Kd.C_drew ?_))); (case side4 => exact (Kd.R_reads' HO_1.out).2.1); rintro e w131 ⟨rfl, hb⟩; replace HO_0 := as_ (Kd.R_below (by (with_reducible repeat (first | apply Kd.R_alloc | apply Kd.R_drewN | apply Kd.R_drew)); exact HO_0.out) hb); replace HO_1 := as_ (Kd.R_below (by (with_reducible repeat (first | apply Kd.R_alloc | apply Kd.R_drewN | apply Kd.R_drew)); exact HO_1.out) hb); replace BK290 := bb BK290 hb; replace HB := as_ (below_step bA hb); (try clear hb); (try clear hb2); (try clear hk); (try clear hi)) | (go_at_call 18; (with_reducible refine (key_Compare.calls kj7 _ _ t294 _ _ t291 t323 _ ?side1 ?side2 ?side3 ?side4 A127.out).mono ?_); (case side1 => repeat (first | exact (Kd.R_reads' HO_1.out).2.2 | (with_reducible refine Kd.C_alloc ?_ _) | (with_reducible refine Kd.C_drewN ?_ _) | (with_reducible refine Kd.C_drew ?_))); (case side2 => exact (Kd.R_reads' HO_1.out).2.1); (case side3 => repeat (first | exact (Kd.R_reads' HO_0.out).2.2 | (with_reducible refine Kd.C_alloc ?_ _) | (with_reducible refine Kd.C_drewN ?_ _) | (with_reducible refine Kd.C_drew ?_))); (case side4 => exact (Kd.R_reads' HO_0.out).2.1); rintro e w132 ⟨rfl, hb⟩; replace HO_0 := as_ (Kd.R_below (by (with_reducible repeat (first | apply Kd.R_alloc | apply Kd.R_drewN | apply Kd.R_drew)); exact HO_0.out) hb); replace HO_1 := as_ (Kd.R_below (by (with_reducible repeat (first | apply Kd.R_alloc | apply Kd.R_drewN | apply Kd.R_drew)); exact HO_1.out) hb); replace BK290 := bb BK290 hb; replace HB := as_ (below_step bA hb); (try clear hb); (try clear hb2); (try clear hk); (try clear hi)) | (go_at_call 21; (with_reducible refine (withylaw04_fixed.calls kj7  t324 _ A129.out).mono ?_); rintro e w133 ⟨rfl, hb⟩; replace HO_0 := as_ (Kd.R_below (by (with_reducible repeat (first | apply Kd.R_alloc | apply Kd.R_drewN | apply Kd.R_drew)); exact HO_0.out) hb); replace HO_1 := as_ (Kd.R_below (by (with_reducible repeat (first | apply Kd.R_alloc | apply Kd.R_drewN | apply Kd.R_drew)); exact HO_1.out) hb); replace BK290 := bb BK290 hb; replace HB := as_ (below_step bA hb); (try clear hb); (try clear hb2); (try clear hk); (try clear hi))); try go_wp2_with (first | (go_at_call 18; (with_reducible refine (key_Compare.calls kj7 _ _ t291 _ _ t294 t320 _ ?side1 ?side2 ?side3 ?side4 A114.out).mono ?_); (case side1 => repeat (first | exact (Kd.R_reads' HO_0.out).2.2 | (with_reducible refine Kd.C_alloc ?_ _) | (with_reducible refine Kd.C_drewN ?_ _) | (with_reducible refine Kd.C_drew ?_))); (case side2 => exact (Kd.R_reads' HO_0.out).2.1); (case side3 => repeat (first | exact (Kd.R_reads' HO_1.out).2.2 | (with_reducible refine Kd.C_alloc ?_ _) | (with_reducible refine Kd.C_drewN ?_ _) | (with_reducible refine Kd.C_drew ?_))); (case side4 => exact (Kd.R_reads' HO_1.out).2.1); rintro e w131 ⟨rfl, hb⟩; replace HO_0 := as_ (Kd.R_below (by (with_reducible repeat (first | apply Kd.R_alloc | apply Kd.R_drewN | apply Kd.R_drew)); exact HO_0.out) hb); replace HO_1 := as_ (Kd.R_below (by (with_reducible repeat (first | apply Kd.R_alloc | apply Kd.R_drewN | apply Kd.R_drew)); exact HO_1.out) hb); replace BK290 := bb BK290 hb; replace HB := as_ (below_step bA hb); (try clear hb); (try clear hb2); (try clear hk); (try clear hi)) | (go_at_call 18; (with_reducible refine (key_Compare.calls kj7 _ _ t294 _ _ t291 t323 _ ?side1 ?side2 ?side3 ?side4 A127.out).mono ?_); (case side1 => repeat (first | exact (Kd.R_reads' HO_1.out).2.2 | (with_reducible refine Kd.C_alloc ?_ _) | (with_reducible refine Kd.C_drewN ?_ _) | (with_reducible refine Kd.C_drew ?_))); (case side2 => exact (Kd.R_reads' HO_1.out).2.1); (case side3 => repeat (first | exact (Kd.R_reads' HO_0.out).2.2 | (with_reducible refine Kd.C_alloc ?_ _) | (with_reducible refine Kd.C_drewN ?_ _) | (with_reducible refine Kd.C_drew ?_))); (case side4 => exact (Kd.R_reads' HO_0.out).2.1); rintro e w132 ⟨rfl, hb⟩; replace HO_0 := as_ (Kd.R_below (by (with_reducible repeat (first | apply Kd.R_alloc | apply Kd.R_drewN | apply Kd.R_drew)); exact HO_0.out) hb); replace HO_1 := as_ (Kd.R_below (by (with_reducible repeat (first | apply Kd.R_alloc | apply Kd.R_drewN | apply Kd.R_drew)); exact HO_1.out) hb); replace BK290 := bb BK290 hb; replace HB := as_ (below_step bA hb); (try clear hb); (try clear hb2); (try clear hk); (try clear hi)) | (go_at_call 21; (with_reducible refine (withylaw04_fixed.calls kj7  t324 _ A129.out).mono ?_); rintro e w133 ⟨rfl, hb⟩; replace HO_0 := as_ (Kd.R_below (by (with_reducible repeat (first | apply Kd.R_alloc | apply Kd.R_drewN | apply Kd.R_drew)); exact HO_0.out) hb); replace HO_1 := as_ (Kd.R_below (by (with_reducible repeat (first | apply Kd.R_alloc | apply Kd.R_drewN | apply Kd.R_drew)); exact HO_1.out) hb); replace BK290 := bb BK290 hb; replace HB := as_ (below_step bA hb); (try clear hb); (try clear hb2); (try clear hk); (try clear hi))))
    go_ret
    exact ⟨by first | rfl | (simp [errW_none, errW_some] <;> rfl) | (simp only [← hji29, ← hjs32, ← hjs34, ← hji35, ← hjs38, ← hjs40, ← hjs113]; first | rfl | (simp [errW_none, errW_some] <;> rfl)) | (simp [*, errW_none, errW_some] <;> rfl), by repeat (first | (with_reducible first | exact HB.out | apply below_alloc | apply pw_below_drewN | apply below_drew1 | refine below_set ?_ GE290.out) | exact HB.out)⟩
   rw [if_pos c41] at H
   have c41b0 : decide ((t297.size : Int) ≤ (t299.size : Int)) = true := decide_eq_true c41
   have c41b1 : decide (t297.size ≤ t299.size) = true := decide_eq_true (Int.ofNat_le.mp c41)
   clear c41
   by_cases c42 : 0 ≤ (t297.size : Int)
   rotate_left
   ·rw [if_neg c42] at H
    exact absurd H (by simp)
   rw [if_pos c42] at H
   have c42b0 := eq_true c42
   have c42b1 : decide (0 ≤ (t297.size : Int)) = true := decide_eq_true c42
   clear c42
   have c43b0 := eq_true (of_decide_eq_true aM : (t297.size : Int) ≤ (t299.size : Int))
   obtain ⟨js44, hjs44⟩ : ∃ j_ : ByteArray, (t299.extract 0 t297.size) = j_ := ⟨_, rfl⟩
   replace H : (if (js44).toList = t297.toList then ((key_Compare.f kj7 t291 t294).bind fun t305 => (if ((decide (t305 < 0)) == (Op.bytesLess t297.toList t299.toList)) = true then (if ((t305 == 0) == (t297.toList == t299.toList)) = true then (if (true == (t305 == 0)) = true then (if t305 = 0 then ((key_Compare.f kj7 t294 t291).bind fun t306 => (if t306 = (wrap64 (-t305)) then ((withylaw04_fixed.f kj7).bind fun t307 => (some t307)) else (none))) else (if ((decide (t305 < 0)) == (Op.bytesLess ((js34).toList) ((js40).toList))) = true then ((key_Compare.f kj7 t294 t291).bind fun t308 => (if t308 = (wrap64 (-t305)) then ((withylaw04_fixed.f kj7).bind fun t309 => (some t309)) else (none))) else (none))) else (none)) else (none)) else (none))) else (if (t299.size : Int) ≤ (t297.size : Int) then (if 0 ≤ (t299.size : Int) then ((key_Compare.f kj7 t291 t294).bind fun t310 => (if ((decide (t310 < 0)) == (Op.bytesLess t297.toList t299.toList)) = true then (if ((t310 == 0) == (t297.toList == t299.toList)) = true then (if (((t297.extract 0 t299.size).toList == t299.toList) == (t310 == 0)) = true then (if t310 = 0 then ((key_Compare.f kj7 t294 t291).bind fun t311 => (if t311 = (wrap64 (-t310)) then ((withylaw04_fixed.f kj7).bind fun t312 => (some t312)) else (none))) else (if ((decide (t310 < 0)) == (Op.bytesLess ((js34).toList) ((js40).toList))) = true then ((key_Compare.f kj7 t294 t291).bind fun t313 => (if t313 = (wrap64 (-t310)) then ((withylaw04_fixed.f kj7).bind fun t314 => (some t314)) else (none))) else (none))) else (none)) else (none)) else (none))) else (none)) else ((key_Compare.f kj7 t291 t294).bind fun t315 => (if ((decide (t315 < 0)) == (Op.bytesLess t297.toList t299.toList)) = true then (if ((t315 == 0) == (t297.toList == t299.toList)) = true then (if (false == (t315 == 0)) = true then (if t315 = 0 then ((key_Compare.f kj7 t294 t291).bind fun t316 => (if t316 = (wrap64 (-t315)) then ((withylaw04_fixed.f kj7).bind fun t317 => (some t317)) else (none))) else (if ((decide (t315 < 0)) == (Op.bytesLess ((js34).toList) ((js40).toList))) = true then ((key_Compare.f kj7 t294 t291).bind fun t318 => (if t318 = (wrap64 (-t315)) then ((withylaw04_fixed.f kj7).bind fun t319 => (some t319)) else (none))) else (none))) else (none)) else (none)) else (none))))) = some r := by first | (rw [hjs44] at H; exact H) | (simp only [hjs44] at H ⊢; exact H)
   by_cases c45 : (js44).toList = t297.toList
   ·rw [if_pos c45] at H
    have c45b0 : ((js44).toList == t297.toList) = true := beq_iff_eq.mpr c45
    have c45b1 : ((js44).toList != t297.toList) = false := bne_eq_false_iff_eq.mpr c45
    clear c45
    replace H := bM H
    obtain ⟨t305, A460, H⟩ := H
    replace H : (if ((decide (t305 < 0)) == (Op.bytesLess t297.toList t299.toList)) = true then (if ((t305 == 0) == (t297.toList == t299.toList)) = true then (if (true == (t305 == 0)) = true then (if t305 = 0 then ((key_Compare.f kj7 t294 t291).bind fun t306 => (if t306 = (wrap64 (-t305)) then ((withylaw04_fixed.f kj7).bind fun t307 => (some t307)) else (none))) else (if ((decide (t305 < 0)) == (Op.bytesLess ((js34).toList) ((js40).toList))) = true then ((key_Compare.f kj7 t294 t291).bind fun t308 => (if t308 = (wrap64 (-t305)) then ((withylaw04_fixed.f kj7).bind fun t309 => (some t309)) else (none))) else (none))) else (none)) else (none)) else (none)) = some r := H
    have A46 := Aside0.mk A460
    clear A460
    by_cases c47 : ((decide (t305 < 0)) == (Op.bytesLess t297.toList t299.toList)) = true
    rotate_left
    ·rw [if_neg c47] at H
     exact absurd H (by simp)
    rw [if_pos c47] at H
    have c47b0 : ((decide (t305 < 0)) == (Op.bytesLess t297.toList t299.toList)) = true := c47
    (try (have c47b1 : decide ((decide (t305 < 0)) = (Op.bytesLess t297.toList t299.toList)) = true := by simpa using c47))
    (try (have c47b2 : ((decide (t305 < 0)) == (Op.bytesLess t297.toList t299.toList)) = true := by simpa using c47))
    clear c47
    by_cases c48 : ((t305 == 0) == (t297.toList == t299.toList)) = true
    rotate_left
    ·rw [if_neg c48] at H
     exact absurd H (by simp)
    rw [if_pos c48] at H
    have c48b0 : ((t305 == 0) == (t297.toList == t299.toList)) = true := c48
    (try (have c48b1 : decide ((t305 == 0) = (t297.toList == t299.toList)) = true := by simpa using c48))
    (try (have c48b2 : ((t305 == 0) == (t297.toList == t299.toList)) = true := by simpa using c48))
    clear c48
    by_cases c49 : (true == (t305 == 0)) = true
    rotate_left
    ·rw [if_neg c49] at H
     exact absurd H (by simp)
    rw [if_pos c49] at H
    have c49b0 : (true == (t305 == 0)) = true := c49
    (try (have c49b1 : (t305 == 0) = true := by simpa using c49))
    (try (have c49b2 : decide (true = (t305 == 0)) = true := by simpa using c49))
    (try (have c49b3 : (true == (t305 == 0)) = true := by simpa using c49))
    clear c49
    by_cases c50 : t305 = 0
    rotate_left
    ·rw [if_neg c50] at H
     have c50b0 : (t305 == 0) = false := beq_eq_false_iff_ne.mpr c50
     (try (have c48u : decide (t297.toList = t299.toList) = true := by have h_ := c48b0; rw [c50b0] at h_; simpa using h_))
     (try (have c48t : (t297.toList == t299.toList) = true := by have h_ := c48b0; rw [c50b0] at h_; simpa using h_))
     (try (have c48u : decide (t297.toList = t299.toList) = false := by have h_ := c48b0; rw [c50b0] at h_; simpa using h_))
     (try (have c48t : (t297.toList == t299.toList) = false := by have h_ := c48b0; rw [c50b0] at h_; simpa using h_))
     exact absurd ((eq_of_beq c49b0).trans c50b0) (by decide)
    rw [if_pos c50] at H
    have c50b0 : (t305 == 0) = true := beq_iff_eq.mpr c50
    (try (have c48u : decide (t297.toList = t299.toList) = true := by have h_ := c48b0; rw [c50b0] at h_; simpa using h_))
    (try (have c48t : (t297.toList == t299.toList) = true := by have h_ := c48b0; rw [c50b0] at h_; simpa using h_))
    (try (have c48u : decide (t297.toList = t299.toList) = false := by have h_ := c48b0; rw [c50b0] at h_; simpa using h_))
    (try (have c48t : (t297.toList == t299.toList) = false := by have h_ := c48b0; rw [c50b0] at h_; simpa using h_))
    have c48d0 : (t297.toList == t299.toList) = true := by have h_ := eq_of_beq c48b0; rw [c50b0] at h_; exact h_.symm
    (try (have c48d1 : (t297.toList = t299.toList) = True := eq_true (by simpa using c48d0)))
    have c50b1 : (t305 != 0) = false := bne_eq_false_iff_eq.mpr c50
    clear c50
    replace H := bM H
    obtain ⟨t306, A510, H⟩ := H
    replace H : (if t306 = (wrap64 (-t305)) then ((withylaw04_fixed.f kj7).bind fun t307 => (some t307)) else (none)) = some r := H
    have A51 := Aside0.mk A510
    clear A510
    by_cases c52 : t306 = (wrap64 (-t305))
    rotate_left
    ·rw [if_neg c52] at H
     exact absurd H (by simp)
    rw [if_pos c52] at H
    have c52b0 : (t306 == (wrap64 (-t305))) = true := beq_iff_eq.mpr c52
    have c52b1 : (t306 != (wrap64 (-t305))) = false := bne_eq_false_iff_eq.mpr c52
    clear c52
    replace H := bM H
    obtain ⟨t307, A530, H⟩ := H
    replace H : (some t307) = some r := H
    have A53 := Aside0.mk A530
    clear A530
    obtain rfl := Option.some.inj H
    obtain ⟨hcz54_0, hcz54_1⟩ := zc2 BK290
    obtain ⟨hfz54_0, hfz54_1⟩ := zf2 BK290
    go_wp2_with (first | (go_at_call 18; (with_reducible refine (key_Compare.calls kj7 _ _ t291 _ _ t294 t305 _ ?side1 ?side2 ?side3 ?side4 A46.out).mono ?_); (case side1 => repeat (first | exact (Kd.R_reads' HO_0.out).2.2 | (with_reducible refine Kd.C_alloc ?_ _) | (with_reducible refine Kd.C_drewN ?_ _) | (with_reducible refine Kd.C_drew ?_))); (case side2 => exact (Kd.R_reads' HO_0.out).2.1); (case side3 => repeat (first | exact (Kd.R_reads' HO_1.out).2.2 | (with_reducible refine Kd.C_alloc ?_ _) | (with_reducible refine Kd.C_drewN ?_ _) | (with_reducible refine Kd.C_drew ?_))); (case side4 => exact (Kd.R_reads' HO_1.out).2.1); rintro e w55 ⟨rfl, hb⟩; replace HO_0 := as_ (Kd.R_below (by (with_reducible repeat (first | apply Kd.R_alloc | apply Kd.R_drewN | apply Kd.R_drew)); exact HO_0.out) hb); replace HO_1 := as_ (Kd.R_below (by (with_reducible repeat (first | apply Kd.R_alloc | apply Kd.R_drewN | apply Kd.R_drew)); exact HO_1.out) hb); replace BK290 := bb BK290 hb; replace HB := as_ (below_step bA hb); (try clear hb); (try clear hb2); (try clear hk); (try clear hi)) | (go_at_call 18; (with_reducible refine (key_Compare.calls kj7 _ _ t294 _ _ t291 t306 _ ?side1 ?side2 ?side3 ?side4 A51.out).mono ?_); (case side1 => repeat (first | exact (Kd.R_reads' HO_1.out).2.2 | (with_reducible refine Kd.C_alloc ?_ _) | (with_reducible refine Kd.C_drewN ?_ _) | (with_reducible refine Kd.C_drew ?_))); (case side2 => exact (Kd.R_reads' HO_1.out).2.1); (case side3 => repeat (first | exact (Kd.R_reads' HO_0.out).2.2 | (with_reducible refine Kd.C_alloc ?_ _) | (with_reducible refine Kd.C_drewN ?_ _) | (with_reducible refine Kd.C_drew ?_))); (case side4 => exact (Kd.R_reads' HO_0.out).2.1); rintro e w56 ⟨rfl, hb⟩; replace HO_0 := as_ (Kd.R_below (by (with_reducible repeat (first | apply Kd.R_alloc | apply Kd.R_drewN | apply Kd.R_drew)); exact HO_0.out) hb); replace HO_1 := as_ (Kd.R_below (by (with_reducible repeat (first | apply Kd.R_alloc | apply Kd.R_drewN | apply Kd.R_drew)); exact HO_1.out) hb); replace BK290 := bb BK290 hb; replace HB := as_ (below_step bA hb); (try clear hb); (try clear hb2); (try clear hk); (try clear hi)) | (go_at_call 21; (with_reducible refine (withylaw04_fixed.calls kj7  t307 _ A53.out).mono ?_); rintro e w57 ⟨rfl, hb⟩; replace HO_0 := as_ (Kd.R_below (by (with_reducible repeat (first | apply Kd.R_alloc | apply Kd.R_drewN | apply Kd.R_drew)); exact HO_0.out) hb); replace HO_1 := as_ (Kd.R_below (by (with_reducible repeat (first | apply Kd.R_alloc | apply Kd.R_drewN | apply Kd.R_drew)); exact HO_1.out) hb); replace BK290 := bb BK290 hb; replace HB := as_ (below_step bA hb); (try clear hb); (try clear hb2); (try clear hk); (try clear hi)))
    repeat (go_quiet (first | (go_at_call 18; (with_reducible refine (key_Compare.calls kj7 _ _ t291 _ _ t294 t305 _ ?side1 ?side2 ?side3 ?side4 A46.out).mono ?_); (case side1 => repeat (first | exact (Kd.R_reads' HO_0.out).2.2 | (with_reducible refine Kd.C_alloc ?_ _) | (with_reducible refine Kd.C_drewN ?_ _) | (with_reducible refine Kd.C_drew ?_))); (case side2 => exact (Kd.R_reads' HO_0.out).2.1); (case side3 => repeat (first | exact (Kd.R_reads' HO_1.out).2.2 | (with_reducible refine Kd.C_alloc ?_ _) | (with_reducible refine Kd.C_drewN ?_ _) | (with_reducible refine Kd.C_drew ?_))); (case side4 => exact (Kd.R_reads' HO_1.out).2.1); rintro e w55 ⟨rfl, hb⟩; replace HO_0 := as_ (Kd.R_below (by (with_reducible repeat (first | apply Kd.R_alloc | apply Kd.R_drewN | apply Kd.R_drew)); exact HO_0.out) hb); replace HO_1 := as_ (Kd.R_below (by (with_reducible repeat (first | apply Kd.R_alloc | apply Kd.R_drewN | apply Kd.R_drew)); exact HO_1.out) hb); replace BK290 := bb BK290 hb; replace HB := as_ (below_step bA hb); (try clear hb); (try clear hb2); (try clear hk); (try clear hi)) | (go_at_call 18; (with_reducible refine (key_Compare.calls kj7 _ _ t294 _ _ t291 t306 _ ?side1 ?side2 ?side3 ?side4 A51.out).mono ?_); (case side1 => repeat (first | exact (Kd.R_reads' HO_1.out).2.2 | (with_reducible refine Kd.C_alloc ?_ _) | (with_reducible refine Kd.C_drewN ?_ _) | (with_reducible refine Kd.C_drew ?_))); (case side2 => exact (Kd.R_reads' HO_1.out).2.1); (case side3 => repeat (first | exact (Kd.R_reads' HO_0.out).2.2 | (with_reducible refine Kd.C_alloc ?_ _) | (with_reducible refine Kd.C_drewN ?_ _) | (with_reducible refine Kd.C_drew ?_))); (case side4 => exact (Kd.R_reads' HO_0.out).2.1); rintro e w56 ⟨rfl, hb⟩; replace HO_0 := as_ (Kd.R_below (by (with_reducible repeat (first | apply Kd.R_alloc | apply Kd.R_drewN | apply Kd.R_drew)); exact HO_0.out) hb); replace HO_1 := as_ (Kd.R_below (by (with_reducible repeat (first | apply Kd.R_alloc | apply Kd.R_drewN | apply Kd.R_drew)); exact HO_1.out) hb); replace BK290 := bb BK290 hb; replace HB := as_ (below_step bA hb); (try clear hb); (try clear hb2); (try clear hk); (try clear hi)) | (go_at_call 21; (with_reducible refine (withylaw04_fixed.calls kj7  t307 _ A53.out).mono ?_); rintro e w57 ⟨rfl, hb⟩; replace HO_0 := as_ (Kd.R_below (by (with_reducible repeat (first | apply Kd.R_alloc | apply Kd.R_drewN | apply Kd.R_drew)); exact HO_0.out) hb); replace HO_1 := as_ (Kd.R_below (by (with_reducible repeat (first | apply Kd.R_alloc | apply Kd.R_drewN | apply Kd.R_drew)); exact HO_1.out) hb); replace BK290 := bb BK290 hb; replace HB := as_ (below_step bA hb); (try clear hb); (try clear hb2); (try clear hk); (try clear hi))); try go_wp2_with (first | (go_at_call 18; (with_reducible refine (key_Compare.calls kj7 _ _ t291 _ _ t294 t305 _ ?side1 ?side2 ?side3 ?side4 A46.out).mono ?_); (case side1 => repeat (first | exact (Kd.R_reads' HO_0.out).2.2 | (with_reducible refine Kd.C_alloc ?_ _) | (with_reducible refine Kd.C_drewN ?_ _) | (with_reducible refine Kd.C_drew ?_))); (case side2 => exact (Kd.R_reads' HO_0.out).2.1); (case side3 => repeat (first | exact (Kd.R_reads' HO_1.out).2.2 | (with_reducible refine Kd.C_alloc ?_ _) | (with_reducible refine Kd.C_drewN ?_ _) | (with_reducible refine Kd.C_drew ?_))); (case side4 => exact (Kd.R_reads' HO_1.out).2.1); rintro e w55 ⟨rfl, hb⟩; replace HO_0 := as_ (Kd.R_below (by (with_reducible repeat (first | apply Kd.R_alloc | apply Kd.R_drewN | apply Kd.R_drew)); exact HO_0.out) hb); replace HO_1 := as_ (Kd.R_below (by (with_reducible repeat (first | apply Kd.R_alloc | apply Kd.R_drewN | apply Kd.R_drew)); exact HO_1.out) hb); replace BK290 := bb BK290 hb; replace HB := as_ (below_step bA hb); (try clear hb); (try clear hb2); (try clear hk); (try clear hi)) | (go_at_call 18; (with_reducible refine (key_Compare.calls kj7 _ _ t294 _ _ t291 t306 _ ?side1 ?side2 ?side3 ?side4 A51.out).mono ?_); (case side1 => repeat (first | exact (Kd.R_reads' HO_1.out).2.2 | (with_reducible refine Kd.C_alloc ?_ _) | (with_reducible refine Kd.C_drewN ?_ _) | (with_reducible refine Kd.C_drew ?_))); (case side2 => exact (Kd.R_reads' HO_1.out).2.1); (case side3 => repeat (first | exact (Kd.R_reads' HO_0.out).2.2 | (with_reducible refine Kd.C_alloc ?_ _) | (with_reducible refine Kd.C_drewN ?_ _) | (with_reducible refine Kd.C_drew ?_))); (case side4 => exact (Kd.R_reads' HO_0.out).2.1); rintro e w56 ⟨rfl, hb⟩; replace HO_0 := as_ (Kd.R_below (by (with_reducible repeat (first | apply Kd.R_alloc | apply Kd.R_drewN | apply Kd.R_drew)); exact HO_0.out) hb); replace HO_1 := as_ (Kd.R_below (by (with_reducible repeat (first | apply Kd.R_alloc | apply Kd.R_drewN | apply Kd.R_drew)); exact HO_1.out) hb); replace BK290 := bb BK290 hb; replace HB := as_ (below_step bA hb); (try clear hb); (try clear hb2); (try clear hk); (try clear hi)) | (go_at_call 21; (with_reducible refine (withylaw04_fixed.calls kj7  t307 _ A53.out).mono ?_); rintro e w57 ⟨rfl, hb⟩; replace HO_0 := as_ (Kd.R_below (by (with_reducible repeat (first | apply Kd.R_alloc | apply Kd.R_drewN | apply Kd.R_drew)); exact HO_0.out) hb); replace HO_1 := as_ (Kd.R_below (by (with_reducible repeat (first | apply Kd.R_alloc | apply Kd.R_drewN | apply Kd.R_drew)); exact HO_1.out) hb); replace BK290 := bb BK290 hb; replace HB := as_ (below_step bA hb); (try clear hb); (try clear hb2); (try clear hk); (try clear hi))))
    go_ret
    exact ⟨by first | rfl | (simp [errW_none, errW_some] <;> rfl) | (simp only [← hji29, ← hjs32, ← hjs34, ← hji35, ← hjs38, ← hjs40, ← hjs44]; first | rfl | (simp [errW_none, errW_some] <;> rfl)) | (simp [*, errW_none, errW_some] <;> rfl), by repeat (first | (with_reducible first | exact HB.out | apply below_alloc | apply pw_below_drewN | apply below_drew1 | refine below_set ?_ GE290.out) | exact HB.out)⟩
   rw [if_neg c45] at H
   have c45b0 : ((js44).toList == t297.toList) = false := beq_eq_false_iff_ne.mpr c45
   have c45b1 : ((js44).toList != t297.toList) = true := bne_iff_ne.mpr c45
   by_cases c66 : (t299.size : Int) ≤ (t297.size : Int)
   rotate_left
   ·rw [if_neg c66] at H
    have c66b0 : decide ((t299.size : Int) ≤ (t297.size : Int)) = false := decide_eq_false c66
    have c66b1 : decide (t299.size ≤ t297.size) = false := decide_eq_false (fun h => c66 (Int.ofNat_le.mpr h))
    clear c66
    replace H := bM H
    obtain ⟨t315, A900, H⟩ := H
    replace H : (if ((decide (t315 < 0)) == (Op.bytesLess t297.toList t299.toList)) = true then (if ((t315 == 0) == (t297.toList == t299.toList)) = true then (if (false == (t315 == 0)) = true then (if t315 = 0 then ((key_Compare.f kj7 t294 t291).bind fun t316 => (if t316 = (wrap64 (-t315)) then ((withylaw04_fixed.f kj7).bind fun t317 => (some t317)) else (none))) else (if ((decide (t315 < 0)) == (Op.bytesLess ((js34).toList) ((js40).toList))) = true then ((key_Compare.f kj7 t294 t291).bind fun t318 => (if t318 = (wrap64 (-t315)) then ((withylaw04_fixed.f kj7).bind fun t319 => (some t319)) else (none))) else (none))) else (none)) else (none)) else (none)) = some r := H
    have A90 := Aside0.mk A900
    clear A900
    by_cases c91 : ((decide (t315 < 0)) == (Op.bytesLess t297.toList t299.toList)) = true
    rotate_left
    ·rw [if_neg c91] at H
     exact absurd H (by simp)
    rw [if_pos c91] at H
    have c91b0 : ((decide (t315 < 0)) == (Op.bytesLess t297.toList t299.toList)) = true := c91
    (try (have c91b1 : decide ((decide (t315 < 0)) = (Op.bytesLess t297.toList t299.toList)) = true := by simpa using c91))
    (try (have c91b2 : ((decide (t315 < 0)) == (Op.bytesLess t297.toList t299.toList)) = true := by simpa using c91))
    clear c91
    by_cases c92 : ((t315 == 0) == (t297.toList == t299.toList)) = true
    rotate_left
    ·rw [if_neg c92] at H
     exact absurd H (by simp)
    rw [if_pos c92] at H
    have c92b0 : ((t315 == 0) == (t297.toList == t299.toList)) = true := c92
    (try (have c92b1 : decide ((t315 == 0) = (t297.toList == t299.toList)) = true := by simpa using c92))
    (try (have c92b2 : ((t315 == 0) == (t297.toList == t299.toList)) = true := by simpa using c92))
    clear c92
    by_cases c93 : (false == (t315 == 0)) = true
    rotate_left
    ·rw [if_neg c93] at H
     exact absurd H (by simp)
    rw [if_pos c93] at H
    have c93b0 : (false == (t315 == 0)) = true := c93
    (try (have c93b1 : (t315 == 0) = false := by simpa using c93))
    (try (have c93b2 : decide (false = (t315 == 0)) = true := by simpa using c93))
    (try (have c93b3 : (false == (t315 == 0)) = true := by simpa using c93))
    clear c93
    by_cases c94 : t315 = 0
    ·rw [if_pos c94] at H
     have c94b0 : (t315 == 0) = true := beq_iff_eq.mpr c94
     (try (have c92u : decide (t297.toList = t299.toList) = true := by have h_ := c92b0; rw [c94b0] at h_; simpa using h_))
     (try (have c92t : (t297.toList == t299.toList) = true := by have h_ := c92b0; rw [c94b0] at h_; simpa using h_))
     (try (have c92u : decide (t297.toList = t299.toList) = false := by have h_ := c92b0; rw [c94b0] at h_; simpa using h_))
     (try (have c92t : (t297.toList == t299.toList) = false := by have h_ := c92b0; rw [c94b0] at h_; simpa using h_))
     exact absurd ((eq_of_beq c93b0).trans c94b0) (by decide)
    rw [if_neg c94] at H
    have c94b0 : (t315 == 0) = false := beq_eq_false_iff_ne.mpr c94
    (try (have c92u : decide (t297.toList = t299.toList) = true := by have h_ := c92b0; rw [c94b0] at h_; simpa using h_))
    (try (have c92t : (t297.toList == t299.toList) = true := by have h_ := c92b0; rw [c94b0] at h_; simpa using h_))
    (try (have c92u : decide (t297.toList = t299.toList) = false := by have h_ := c92b0; rw [c94b0] at h_; simpa using h_))
    (try (have c92t : (t297.toList == t299.toList) = false := by have h_ := c92b0; rw [c94b0] at h_; simpa using h_))
    have c92d0 : (t297.toList == t299.toList) = false := by have h_ := eq_of_beq c92b0; rw [c94b0] at h_; exact h_.symm
    (try (have c92d1 : (t297.toList = t299.toList) = False := eq_false (by simpa using c92d0)))
    have c94b1 : (t315 != 0) = true := bne_iff_ne.mpr c94
    by_cases c102 : ((decide (t315 < 0)) == (Op.bytesLess ((js34).toList) ((js40).toList))) = true
    rotate_left
    ·rw [if_neg c102] at H
     exact absurd H (by simp)
    rw [if_pos c102] at H
    have c102b0 : ((decide (t315 < 0)) == (Op.bytesLess ((js34).toList) ((js40).toList))) = true := c102
    (try (have c102b1 : decide ((decide (t315 < 0)) = (Op.bytesLess ((js34).toList) ((js40).toList))) = true := by simpa using c102))
    (try (have c102b2 : ((decide (t315 < 0)) == (Op.bytesLess ((js34).toList) ((js40).toList))) = true := by simpa using c102))
    clear c102
    replace H := bM H
    obtain ⟨t318, A1030, H⟩ := H
    replace H : (if t318 = (wrap64 (-t315)) then ((withylaw04_fixed.f kj7).bind fun t319 => (some t319)) else (none)) = some r := H
    have A103 := Aside0.mk A1030
    clear A1030
    by_cases c104 : t318 = (wrap64 (-t315))
    rotate_left
    ·rw [if_neg c104] at H
     exact absurd H (by simp)
    rw [if_pos c104] at H
    have c104b0 : (t318 == (wrap64 (-t315))) = true := beq_iff_eq.mpr c104
    have c104b1 : (t318 != (wrap64 (-t315))) = false := bne_eq_false_iff_eq.mpr c104
    clear c104
    replace H := bM H
    obtain ⟨t319, A1050, H⟩ := H
    replace H : (some t319) = some r := H
    have A105 := Aside0.mk A1050
    clear A1050
    obtain rfl := Option.some.inj H
    obtain ⟨hcz106_0, hcz106_1⟩ := zc2 BK290
    obtain ⟨hfz106_0, hfz106_1⟩ := zf2 BK290
    go_wp2_with (first | (go_at_call 18; (with_reducible refine (key_Compare.calls kj7 _ _ t291 _ _ t294 t315 _ ?side1 ?side2 ?side3 ?side4 A90.out).mono ?_); (case side1 => repeat (first | exact (Kd.R_reads' HO_0.out).2.2 | (with_reducible refine Kd.C_alloc ?_ _) | (with_reducible refine Kd.C_drewN ?_ _) | (with_reducible refine Kd.C_drew ?_))); (case side2 => exact (Kd.R_reads' HO_0.out).2.1); (case side3 => repeat (first | exact (Kd.R_reads' HO_1.out).2.2 | (with_reducible refine Kd.C_alloc ?_ _) | (with_reducible refine Kd.C_drewN ?_ _) | (with_reducible refine Kd.C_drew ?_))); (case side4 => exact (Kd.R_reads' HO_1.out).2.1); rintro e w107 ⟨rfl, hb⟩; replace HO_0 := as_ (Kd.R_below (by (with_reducible repeat (first | apply Kd.R_alloc | apply Kd.R_drewN | apply Kd.R_drew)); exact HO_0.out) hb); replace HO_1 := as_ (Kd.R_below (by (with_reducible repeat (first | apply Kd.R_alloc | apply Kd.R_drewN | apply Kd.R_drew)); exact HO_1.out) hb); replace BK290 := bb BK290 hb; replace HB := as_ (below_step bA hb); (try clear hb); (try clear hb2); (try clear hk); (try clear hi)) | (go_at_call 18; (with_reducible refine (key_Compare.calls kj7 _ _ t294 _ _ t291 t318 _ ?side1 ?side2 ?side3 ?side4 A103.out).mono ?_); (case side1 => repeat (first | exact (Kd.R_reads' HO_1.out).2.2 | (with_reducible refine Kd.C_alloc ?_ _) | (with_reducible refine Kd.C_drewN ?_ _) | (with_reducible refine Kd.C_drew ?_))); (case side2 => exact (Kd.R_reads' HO_1.out).2.1); (case side3 => repeat (first | exact (Kd.R_reads' HO_0.out).2.2 | (with_reducible refine Kd.C_alloc ?_ _) | (with_reducible refine Kd.C_drewN ?_ _) | (with_reducible refine Kd.C_drew ?_))); (case side4 => exact (Kd.R_reads' HO_0.out).2.1); rintro e w108 ⟨rfl, hb⟩; replace HO_0 := as_ (Kd.R_below (by (with_reducible repeat (first | apply Kd.R_alloc | apply Kd.R_drewN | apply Kd.R_drew)); exact HO_0.out) hb); replace HO_1 := as_ (Kd.R_below (by (with_reducible repeat (first | apply Kd.R_alloc | apply Kd.R_drewN | apply Kd.R_drew)); exact HO_1.out) hb); replace BK290 := bb BK290 hb; replace HB := as_ (below_step bA hb); (try clear hb); (try clear hb2); (try clear hk); (try clear hi)) | (go_at_call 21; (with_reducible refine (withylaw04_fixed.calls kj7  t319 _ A105.out).mono ?_); rintro e w109 ⟨rfl, hb⟩; replace HO_0 := as_ (Kd.R_below (by (with_reducible repeat (first | apply Kd.R_alloc | apply Kd.R_drewN | apply Kd.R_drew)); exact HO_0.out) hb); replace HO_1 := as_ (Kd.R_below (by (with_reducible repeat (first | apply Kd.R_alloc | apply Kd.R_drewN | apply Kd.R_drew)); exact HO_1.out) hb); replace BK290 := bb BK290 hb; replace HB := as_ (below_step bA hb); (try clear hb); (try clear hb2); (try clear hk); (try clear hi)))
    repeat (go_quiet (first | (go_at_call 18; (with_reducible refine (key_Compare.calls kj7 _ _ t291 _ _ t294 t315 _ ?side1 ?side2 ?side3 ?side4 A90.out).mono ?_); (case side1 => repeat (first | exact (Kd.R_reads' HO_0.out).2.2 | (with_reducible refine Kd.C_alloc ?_ _) | (with_reducible refine Kd.C_drewN ?_ _) | (with_reducible refine Kd.C_drew ?_))); (case side2 => exact (Kd.R_reads' HO_0.out).2.1); (case side3 => repeat (first | exact (Kd.R_reads' HO_1.out).2.2 | (with_reducible refine Kd.C_alloc ?_ _) | (with_reducible refine Kd.C_drewN ?_ _) | (with_reducible refine Kd.C_drew ?_))); (case side4 => exact (Kd.R_reads' HO_1.out).2.1); rintro e w107 ⟨rfl, hb⟩; replace HO_0 := as_ (Kd.R_below (by (with_reducible repeat (first | apply Kd.R_alloc | apply Kd.R_drewN | apply Kd.R_drew)); exact HO_0.out) hb); replace HO_1 := as_ (Kd.R_below (by (with_reducible repeat (first | apply Kd.R_alloc | apply Kd.R_drewN | apply Kd.R_drew)); exact HO_1.out) hb); replace BK290 := bb BK290 hb; replace HB := as_ (below_step bA hb); (try clear hb); (try clear hb2); (try clear hk); (try clear hi)) | (go_at_call 18; (with_reducible refine (key_Compare.calls kj7 _ _ t294 _ _ t291 t318 _ ?side1 ?side2 ?side3 ?side4 A103.out).mono ?_); (case side1 => repeat (first | exact (Kd.R_reads' HO_1.out).2.2 | (with_reducible refine Kd.C_alloc ?_ _) | (with_reducible refine Kd.C_drewN ?_ _) | (with_reducible refine Kd.C_drew ?_))); (case side2 => exact (Kd.R_reads' HO_1.out).2.1); (case side3 => repeat (first | exact (Kd.R_reads' HO_0.out).2.2 | (with_reducible refine Kd.C_alloc ?_ _) | (with_reducible refine Kd.C_drewN ?_ _) | (with_reducible refine Kd.C_drew ?_))); (case side4 => exact (Kd.R_reads' HO_0.out).2.1); rintro e w108 ⟨rfl, hb⟩; replace HO_0 := as_ (Kd.R_below (by (with_reducible repeat (first | apply Kd.R_alloc | apply Kd.R_drewN | apply Kd.R_drew)); exact HO_0.out) hb); replace HO_1 := as_ (Kd.R_below (by (with_reducible repeat (first | apply Kd.R_alloc | apply Kd.R_drewN | apply Kd.R_drew)); exact HO_1.out) hb); replace BK290 := bb BK290 hb; replace HB := as_ (below_step bA hb); (try clear hb); (try clear hb2); (try clear hk); (try clear hi)) | (go_at_call 21; (with_reducible refine (withylaw04_fixed.calls kj7  t319 _ A105.out).mono ?_); rintro e w109 ⟨rfl, hb⟩; replace HO_0 := as_ (Kd.R_below (by (with_reducible repeat (first | apply Kd.R_alloc | apply Kd.R_drewN | apply Kd.R_drew)); exact HO_0.out) hb); replace HO_1 := as_ (Kd.R_below (by (with_reducible repeat (first | apply Kd.R_alloc | apply Kd.R_drewN | apply Kd.R_drew)); exact HO_1.out) hb); replace BK290 := bb BK290 hb; replace HB := as_ (below_step bA hb); (try clear hb); (try clear hb2); (try clear hk); (try clear hi))); try go_wp2_with (first | (go_at_call 18; (with_reducible refine (key_Compare.calls kj7 _ _ t291 _ _ t294 t315 _ ?side1 ?side2 ?side3 ?side4 A90.out).mono ?_); (case side1 => repeat (first | exact (Kd.R_reads' HO_0.out).2.2 | (with_reducible refine Kd.C_alloc ?_ _) | (with_reducible refine Kd.C_drewN ?_ _) | (with_reducible refine Kd.C_drew ?_))); (case side2 => exact (Kd.R_reads' HO_0.out).2.1); (case side3 => repeat (first | exact (Kd.R_reads' HO_1.out).2.2 | (with_reducible refine Kd.C_alloc ?_ _) | (with_reducible refine Kd.C_drewN ?_ _) | (with_reducible refine Kd.C_drew ?_))); (case side4 => exact (Kd.R_reads' HO_1.out).2.1); rintro e w107 ⟨rfl, hb⟩; replace HO_0 := as_ (Kd.R_below (by (with_reducible repeat (first | apply Kd.R_alloc | apply Kd.R_drewN | apply Kd.R_drew)); exact HO_0.out) hb); replace HO_1 := as_ (Kd.R_below (by (with_reducible repeat (first | apply Kd.R_alloc | apply Kd.R_drewN | apply Kd.R_drew)); exact HO_1.out) hb); replace BK290 := bb BK290 hb; replace HB := as_ (below_step bA hb); (try clear hb); (try clear hb2); (try clear hk); (try clear hi)) | (go_at_call 18; (with_reducible refine (key_Compare.calls kj7 _ _ t294 _ _ t291 t318 _ ?side1 ?side2 ?side3 ?side4 A103.out).mono ?_); (case side1 => repeat (first | exact (Kd.R_reads' HO_1.out).2.2 | (with_reducible refine Kd.C_alloc ?_ _) | (with_reducible refine Kd.C_drewN ?_ _) | (with_reducible refine Kd.C_drew ?_))); (case side2 => exact (Kd.R_reads' HO_1.out).2.1); (case side3 => repeat (first | exact (Kd.R_reads' HO_0.out).2.2 | (with_reducible refine Kd.C_alloc ?_ _) | (with_reducible refine Kd.C_drewN ?_ _) | (with_reducible refine Kd.C_drew ?_))); (case side4 => exact (Kd.R_reads' HO_0.out).2.1); rintro e w108 ⟨rfl, hb⟩; replace HO_0 := as_ (Kd.R_below (by (with_reducible repeat (first | apply Kd.R_alloc | apply Kd.R_drewN | apply Kd.R_drew)); exact HO_0.out) hb); replace HO_1 := as_ (Kd.R_below (by (with_reducible repeat (first | apply Kd.R_alloc | apply Kd.R_drewN | apply Kd.R_drew)); exact HO_1.out) hb); replace BK290 := bb BK290 hb; replace HB := as_ (below_step bA hb); (try clear hb); (try clear hb2); (try clear hk); (try clear hi)) | (go_at_call 21; (with_reducible refine (withylaw04_fixed.calls kj7  t319 _ A105.out).mono ?_); rintro e w109 ⟨rfl, hb⟩; replace HO_0 := as_ (Kd.R_below (by (with_reducible repeat (first | apply Kd.R_alloc | apply Kd.R_drewN | apply Kd.R_drew)); exact HO_0.out) hb); replace HO_1 := as_ (Kd.R_below (by (with_reducible repeat (first | apply Kd.R_alloc | apply Kd.R_drewN | apply Kd.R_drew)); exact HO_1.out) hb); replace BK290 := bb BK290 hb; replace HB := as_ (below_step bA hb); (try clear hb); (try clear hb2); (try clear hk); (try clear hi))))
    go_ret
    exact ⟨by first | rfl | (simp [errW_none, errW_some] <;> rfl) | (simp only [← hji29, ← hjs32, ← hjs34, ← hji35, ← hjs38, ← hjs40, ← hjs44]; first | rfl | (simp [errW_none, errW_some] <;> rfl)) | (simp [*, errW_none, errW_some] <;> rfl), by repeat (first | (with_reducible first | exact HB.out | apply below_alloc | apply pw_below_drewN | apply below_drew1 | refine below_set ?_ GE290.out) | exact HB.out)⟩
   rw [if_pos c66] at H
   have c66b0 : decide ((t299.size : Int) ≤ (t297.size : Int)) = true := decide_eq_true c66
   have c66b1 : decide (t299.size ≤ t297.size) = true := decide_eq_true (Int.ofNat_le.mp c66)
   clear c66
   by_cases c67 : 0 ≤ (t299.size : Int)
   rotate_left
   ·rw [if_neg c67] at H
    exact absurd H (by simp)
   rw [if_pos c67] at H
   have c67b0 := eq_true c67
   have c67b1 : decide (0 ≤ (t299.size : Int)) = true := decide_eq_true c67
   clear c67
   have c68b0 := eq_true (of_decide_eq_true aM : (t299.size : Int) ≤ (t297.size : Int))
   obtain ⟨js69, hjs69⟩ : ∃ j_ : ByteArray, (t297.extract 0 t299.size) = j_ := ⟨_, rfl⟩
   replace H : ((key_Compare.f kj7 t291 t294).bind fun t310 => (if ((decide (t310 < 0)) == (Op.bytesLess t297.toList t299.toList)) = true then (if ((t310 == 0) == (t297.toList == t299.toList)) = true then (if (((js69).toList == t299.toList) == (t310 == 0)) = true then (if t310 = 0 then ((key_Compare.f kj7 t294 t291).bind fun t311 => (if t311 = (wrap64 (-t310)) then ((withylaw04_fixed.f kj7).bind fun t312 => (some t312)) else (none))) else (if ((decide (t310 < 0)) == (Op.bytesLess ((js34).toList) ((js40).toList))) = true then ((key_Compare.f kj7 t294 t291).bind fun t313 => (if t313 = (wrap64 (-t310)) then ((withylaw04_fixed.f kj7).bind fun t314 => (some t314)) else (none))) else (none))) else (none)) else (none)) else (none))) = some r := by first | (rw [hjs69] at H; exact H) | (simp only [hjs69] at H ⊢; exact H)
   replace H := bM H
   obtain ⟨t310, A700, H⟩ := H
   replace H : (if ((decide (t310 < 0)) == (Op.bytesLess t297.toList t299.toList)) = true then (if ((t310 == 0) == (t297.toList == t299.toList)) = true then (if (((js69).toList == t299.toList) == (t310 == 0)) = true then (if t310 = 0 then ((key_Compare.f kj7 t294 t291).bind fun t311 => (if t311 = (wrap64 (-t310)) then ((withylaw04_fixed.f kj7).bind fun t312 => (some t312)) else (none))) else (if ((decide (t310 < 0)) == (Op.bytesLess ((js34).toList) ((js40).toList))) = true then ((key_Compare.f kj7 t294 t291).bind fun t313 => (if t313 = (wrap64 (-t310)) then ((withylaw04_fixed.f kj7).bind fun t314 => (some t314)) else (none))) else (none))) else (none)) else (none)) else (none)) = some r := H
   have A70 := Aside0.mk A700
   clear A700
   by_cases c71 : ((decide (t310 < 0)) == (Op.bytesLess t297.toList t299.toList)) = true
   rotate_left
   ·rw [if_neg c71] at H
    exact absurd H (by simp)
   rw [if_pos c71] at H
   have c71b0 : ((decide (t310 < 0)) == (Op.bytesLess t297.toList t299.toList)) = true := c71
   (try (have c71b1 : decide ((decide (t310 < 0)) = (Op.bytesLess t297.toList t299.toList)) = true := by simpa using c71))
   (try (have c71b2 : ((decide (t310 < 0)) == (Op.bytesLess t297.toList t299.toList)) = true := by simpa using c71))
   clear c71
   by_cases c72 : ((t310 == 0) == (t297.toList == t299.toList)) = true
   rotate_left
   ·rw [if_neg c72] at H
    exact absurd H (by simp)
   rw [if_pos c72] at H
   have c72b0 : ((t310 == 0) == (t297.toList == t299.toList)) = true := c72
   (try (have c72b1 : decide ((t310 == 0) = (t297.toList == t299.toList)) = true := by simpa using c72))
   (try (have c72b2 : ((t310 == 0) == (t297.toList == t299.toList)) = true := by simpa using c72))
   clear c72
   by_cases c73 : (((js69).toList == t299.toList) == (t310 == 0)) = true
   rotate_left
   ·rw [if_neg c73] at H
    exact absurd H (by simp)
   rw [if_pos c73] at H
   have c73b0 : (((js69).toList == t299.toList) == (t310 == 0)) = true := c73
   (try (have c73b1 : decide (((js69).toList == t299.toList) = (t310 == 0)) = true := by simpa using c73))
   (try (have c73b2 : (((js69).toList == t299.toList) == (t310 == 0)) = true := by simpa using c73))
   clear c73
   by_cases c74 : t310 = 0
   ·rw [if_pos c74] at H
    have c74b0 : (t310 == 0) = true := beq_iff_eq.mpr c74
    (try (have c72u : decide (t297.toList = t299.toList) = true := by have h_ := c72b0; rw [c74b0] at h_; simpa using h_))
    (try (have c72t : (t297.toList == t299.toList) = true := by have h_ := c72b0; rw [c74b0] at h_; simpa using h_))
    (try (have c72u : decide (t297.toList = t299.toList) = false := by have h_ := c72b0; rw [c74b0] at h_; simpa using h_))
    (try (have c72t : (t297.toList == t299.toList) = false := by have h_ := c72b0; rw [c74b0] at h_; simpa using h_))
    have c72d0 : (t297.toList == t299.toList) = true := by have h_ := eq_of_beq c72b0; rw [c74b0] at h_; exact h_.symm
    (try (have c72d1 : (t297.toList = t299.toList) = True := eq_true (by simpa using c72d0)))
    have c73d0 : ((js69).toList == t299.toList) = true := by have h_ := eq_of_beq c73b0; rw [c74b0] at h_; exact h_
    (try (have c73d1 : (js69.toList = t299.toList) = True := eq_true (by simpa using c73d0)))
    have c74b1 : (t310 != 0) = false := bne_eq_false_iff_eq.mpr c74
    clear c74
    replace H := bM H
    obtain ⟨t311, A750, H⟩ := H
    replace H : (if t311 = (wrap64 (-t310)) then ((withylaw04_fixed.f kj7).bind fun t312 => (some t312)) else (none)) = some r := H
    have A75 := Aside0.mk A750
    clear A750
    by_cases c76 : t311 = (wrap64 (-t310))
    rotate_left
    ·rw [if_neg c76] at H
     exact absurd H (by simp)
    rw [if_pos c76] at H
    have c76b0 : (t311 == (wrap64 (-t310))) = true := beq_iff_eq.mpr c76
    have c76b1 : (t311 != (wrap64 (-t310))) = false := bne_eq_false_iff_eq.mpr c76
    clear c76
    replace H := bM H
    obtain ⟨t312, A770, H⟩ := H
    replace H : (some t312) = some r := H
    have A77 := Aside0.mk A770
    clear A770
    obtain rfl := Option.some.inj H
    obtain ⟨hcz78_0, hcz78_1⟩ := zc2 BK290
    obtain ⟨hfz78_0, hfz78_1⟩ := zf2 BK290
    go_wp2_with (first | (go_at_call 18; (with_reducible refine (key_Compare.calls kj7 _ _ t291 _ _ t294 t310 _ ?side1 ?side2 ?side3 ?side4 A70.out).mono ?_); (case side1 => repeat (first | exact (Kd.R_reads' HO_0.out).2.2 | (with_reducible refine Kd.C_alloc ?_ _) | (with_reducible refine Kd.C_drewN ?_ _) | (with_reducible refine Kd.C_drew ?_))); (case side2 => exact (Kd.R_reads' HO_0.out).2.1); (case side3 => repeat (first | exact (Kd.R_reads' HO_1.out).2.2 | (with_reducible refine Kd.C_alloc ?_ _) | (with_reducible refine Kd.C_drewN ?_ _) | (with_reducible refine Kd.C_drew ?_))); (case side4 => exact (Kd.R_reads' HO_1.out).2.1); rintro e w79 ⟨rfl, hb⟩; replace HO_0 := as_ (Kd.R_below (by (with_reducible repeat (first | apply Kd.R_alloc | apply Kd.R_drewN | apply Kd.R_drew)); exact HO_0.out) hb); replace HO_1 := as_ (Kd.R_below (by (with_reducible repeat (first | apply Kd.R_alloc | apply Kd.R_drewN | apply Kd.R_drew)); exact HO_1.out) hb); replace BK290 := bb BK290 hb; replace HB := as_ (below_step bA hb); (try clear hb); (try clear hb2); (try clear hk); (try clear hi)) | (go_at_call 18; (with_reducible refine (key_Compare.calls kj7 _ _ t294 _ _ t291 t311 _ ?side1 ?side2 ?side3 ?side4 A75.out).mono ?_); (case side1 => repeat (first | exact (Kd.R_reads' HO_1.out).2.2 | (with_reducible refine Kd.C_alloc ?_ _) | (with_reducible refine Kd.C_drewN ?_ _) | (with_reducible refine Kd.C_drew ?_))); (case side2 => exact (Kd.R_reads' HO_1.out).2.1); (case side3 => repeat (first | exact (Kd.R_reads' HO_0.out).2.2 | (with_reducible refine Kd.C_alloc ?_ _) | (with_reducible refine Kd.C_drewN ?_ _) | (with_reducible refine Kd.C_drew ?_))); (case side4 => exact (Kd.R_reads' HO_0.out).2.1); rintro e w80 ⟨rfl, hb⟩; replace HO_0 := as_ (Kd.R_below (by (with_reducible repeat (first | apply Kd.R_alloc | apply Kd.R_drewN | apply Kd.R_drew)); exact HO_0.out) hb); replace HO_1 := as_ (Kd.R_below (by (with_reducible repeat (first | apply Kd.R_alloc | apply Kd.R_drewN | apply Kd.R_drew)); exact HO_1.out) hb); replace BK290 := bb BK290 hb; replace HB := as_ (below_step bA hb); (try clear hb); (try clear hb2); (try clear hk); (try clear hi)) | (go_at_call 21; (with_reducible refine (withylaw04_fixed.calls kj7  t312 _ A77.out).mono ?_); rintro e w81 ⟨rfl, hb⟩; replace HO_0 := as_ (Kd.R_below (by (with_reducible repeat (first | apply Kd.R_alloc | apply Kd.R_drewN | apply Kd.R_drew)); exact HO_0.out) hb); replace HO_1 := as_ (Kd.R_below (by (with_reducible repeat (first | apply Kd.R_alloc | apply Kd.R_drewN | apply Kd.R_drew)); exact HO_1.out) hb); replace BK290 := bb BK290 hb; replace HB := as_ (below_step bA hb); (try clear hb); (try clear hb2); (try clear hk); (try clear hi)))
    repeat (go_quiet (first | (go_at_call 18; (with_reducible refine (key_Compare.calls kj7 _ _ t291 _ _ t294 t310 _ ?side1 ?side2 ?side3 ?side4 A70.out).mono ?_); (case side1 => repeat (first | exact (Kd.R_reads' HO_0.out).2.2 | (with_reducible refine Kd.C_alloc ?_ _) | (with_reducible refine Kd.C_drewN ?_ _) | (with_reducible refine Kd.C_drew ?_))); (case side2 => exact (Kd.R_reads' HO_0.out).2.1); (case side3 => repeat (first | exact (Kd.R_reads' HO_1.out).2.2 | (with_reducible refine Kd.C_alloc ?_ _) | (with_reducible refine Kd.C_drewN ?_ _) | (with_reducible refine Kd.C_drew ?_))); (case side4 => exact (Kd.R_reads' HO_1.out).2.1); rintro e w79 ⟨rfl, hb⟩; replace HO_0 := as_ (Kd.R_below (by (with_reducible repeat (first | apply Kd.R_alloc | apply Kd.R_drewN | apply Kd.R_drew)); exact HO_0.out) hb); replace HO_1 := as_ (Kd.R_below (by (with_reducible repeat (first | apply Kd.R_alloc | apply Kd.R_drewN | apply Kd.R_drew)); exact HO_1.out) hb); replace BK290 := bb BK290 hb; replace HB := as_ (below_step bA hb); (try clear hb); (try clear hb2); (try clear hk); (try clear hi)) | (go_at_call 18; (with_reducible refine (key_Compare.calls kj7 _ _ t294 _ _ t291 t311 _ ?side1 ?side2 ?side3 ?side4 A75.out).mono ?_); (case side1 => repeat (first | exact (Kd.R_reads' HO_1.out).2.2 | (with_reducible refine Kd.C_alloc ?_ _) | (with_reducible refine Kd.C_drewN ?_ _) | (with_reducible refine Kd.C_drew ?_))); (case side2 => exact (Kd.R_reads' HO_1.out).2.1); (case side3 => repeat (first | exact (Kd.R_reads' HO_0.out).2.2 | (with_reducible refine Kd.C_alloc ?_ _) | (with_reducible refine Kd.C_drewN ?_ _) | (with_reducible refine Kd.C_drew ?_))); (case side4 => exact (Kd.R_reads' HO_0.out).2.1); rintro e w80 ⟨rfl, hb⟩; replace HO_0 := as_ (Kd.R_below (by (with_reducible repeat (first | apply Kd.R_alloc | apply Kd.R_drewN | apply Kd.R_drew)); exact HO_0.out) hb); replace HO_1 := as_ (Kd.R_below (by (with_reducible repeat (first | apply Kd.R_alloc | apply Kd.R_drewN | apply Kd.R_drew)); exact HO_1.out) hb); replace BK290 := bb BK290 hb; replace HB := as_ (below_step bA hb); (try clear hb); (try clear hb2); (try clear hk); (try clear hi)) | (go_at_call 21; (with_reducible refine (withylaw04_fixed.calls kj7  t312 _ A77.out).mono ?_); rintro e w81 ⟨rfl, hb⟩; replace HO_0 := as_ (Kd.R_below (by (with_reducible repeat (first | apply Kd.R_alloc | apply Kd.R_drewN | apply Kd.R_drew)); exact HO_0.out) hb); replace HO_1 := as_ (Kd.R_below (by (with_reducible repeat (first | apply Kd.R_alloc | apply Kd.R_drewN | apply Kd.R_drew)); exact HO_1.out) hb); replace BK290 := bb BK290 hb; replace HB := as_ (below_step bA hb); (try clear hb); (try clear hb2); (try clear hk); (try clear hi))); try go_wp2_with (first | (go_at_call 18; (with_reducible refine (key_Compare.calls kj7 _ _ t291 _ _ t294 t310 _ ?side1 ?side2 ?side3 ?side4 A70.out).mono ?_); (case side1 => repeat (first | exact (Kd.R_reads' HO_0.out).2.2 | (with_reducible refine Kd.C_alloc ?_ _) | (with_reducible refine Kd.C_drewN ?_ _) | (with_reducible refine Kd.C_drew ?_))); (case side2 => exact (Kd.R_reads' HO_0.out).2.1); (case side3 => repeat (first | exact (Kd.R_reads' HO_1.out).2.2 | (with_reducible refine Kd.C_alloc ?_ _) | (with_reducible refine Kd.C_drewN ?_ _) | (with_reducible refine Kd.C_drew ?_))); (case side4 => exact (Kd.R_reads' HO_1.out).2.1); rintro e w79 ⟨rfl, hb⟩; replace HO_0 := as_ (Kd.R_below (by (with_reducible repeat (first | apply Kd.R_alloc | apply Kd.R_drewN | apply Kd.R_drew)); exact HO_0.out) hb); replace HO_1 := as_ (Kd.R_below (by (with_reducible repeat (first | apply Kd.R_alloc | apply Kd.R_drewN | apply Kd.R_drew)); exact HO_1.out) hb); replace BK290 := bb BK290 hb; replace HB := as_ (below_step bA hb); (try clear hb); (try clear hb2); (try clear hk); (try clear hi)) | (go_at_call 18; (with_reducible refine (key_Compare.calls kj7 _ _ t294 _ _ t291 t311 _ ?side1 ?side2 ?side3 ?side4 A75.out).mono ?_); (case side1 => repeat (first | exact (Kd.R_reads' HO_1.out).2.2 | (with_reducible refine Kd.C_alloc ?_ _) | (with_reducible refine Kd.C_drewN ?_ _) | (with_reducible refine Kd.C_drew ?_))); (case side2 => exact (Kd.R_reads' HO_1.out).2.1); (case side3 => repeat (first | exact (Kd.R_reads' HO_0.out).2.2 | (with_reducible refine Kd.C_alloc ?_ _) | (with_reducible refine Kd.C_drewN ?_ _) | (with_reducible refine Kd.C_drew ?_))); (case side4 => exact (Kd.R_reads' HO_0.out).2.1); rintro e w80 ⟨rfl, hb⟩; replace HO_0 := as_ (Kd.R_below (by (with_reducible repeat (first | apply Kd.R_alloc | apply Kd.R_drewN | apply Kd.R_drew)); exact HO_0.out) hb); replace HO_1 := as_ (Kd.R_below (by (with_reducible repeat (first | apply Kd.R_alloc | apply Kd.R_drewN | apply Kd.R_drew)); exact HO_1.out) hb); replace BK290 := bb BK290 hb; replace HB := as_ (below_step bA hb); (try clear hb); (try clear hb2); (try clear hk); (try clear hi)) | (go_at_call 21; (with_reducible refine (withylaw04_fixed.calls kj7  t312 _ A77.out).mono ?_); rintro e w81 ⟨rfl, hb⟩; replace HO_0 := as_ (Kd.R_below (by (with_reducible repeat (first | apply Kd.R_alloc | apply Kd.R_drewN | apply Kd.R_drew)); exact HO_0.out) hb); replace HO_1 := as_ (Kd.R_below (by (with_reducible repeat (first | apply Kd.R_alloc | apply Kd.R_drewN | apply Kd.R_drew)); exact HO_1.out) hb); replace BK290 := bb BK290 hb; replace HB := as_ (below_step bA hb); (try clear hb); (try clear hb2); (try clear hk); (try clear hi))))
    go_ret
    exact ⟨by first | rfl | (simp [errW_none, errW_some] <;> rfl) | (simp only [← hji29, ← hjs32, ← hjs34, ← hji35, ← hjs38, ← hjs40, ← hjs44, ← hjs69]; first | rfl | (simp [errW_none, errW_some] <;> rfl)) | (simp [*, errW_none, errW_some] <;> rfl), by repeat (first | (with_reducible first | exact HB.out | apply below_alloc | apply pw_below_drewN | apply below_drew1 | refine below_set ?_ GE290.out) | exact HB.out)⟩
   rw [if_neg c74] at H
   have c74b0 : (t310 == 0) = false := beq_eq_false_iff_ne.mpr c74
   (try (have c72u : decide (t297.toList = t299.toList) = true := by have h_ := c72b0; rw [c74b0] at h_; simpa using h_))
   (try (have c72t : (t297.toList == t299.toList) = true := by have h_ := c72b0; rw [c74b0] at h_; simpa using h_))
   (try (have c72u : decide (t297.toList = t299.toList) = false := by have h_ := c72b0; rw [c74b0] at h_; simpa using h_))
   (try (have c72t : (t297.toList == t299.toList) = false := by have h_ := c72b0; rw [c74b0] at h_; simpa using h_))
   have c72d0 : (t297.toList == t299.toList) = false := by have h_ := eq_of_beq c72b0; rw [c74b0] at h_; exact h_.symm
   (try (have c72d1 : (t297.toList = t299.toList) = False := eq_false (by simpa using c72d0)))
   have c73d0 : ((js69).toList == t299.toList) = false := by have h_ := eq_of_beq c73b0; rw [c74b0] at h_; exact h_
   (try (have c73d1 : (js69.toList = t299.toList) = False := eq_false (by simpa using c73d0)))
   have c74b1 : (t310 != 0) = true := bne_iff_ne.mpr c74
   by_cases c82 : ((decide (t310 < 0)) == (Op.bytesLess ((js34).toList) ((js40).toList))) = true
   rotate_left
   ·rw [if_neg c82] at H
    exact absurd H (by simp)
   rw [if_pos c82] at H
   have c82b0 : ((decide (t310 < 0)) == (Op.bytesLess ((js34).toList) ((js40).toList))) = true := c82
   (try (have c82b1 : decide ((decide (t310 < 0)) = (Op.bytesLess ((js34).toList) ((js40).toList))) = true := by simpa using c82))
   (try (have c82b2 : ((decide (t310 < 0)) == (Op.bytesLess ((js34).toList) ((js40).toList))) = true := by simpa using c82))
   clear c82
   replace H := bM H
   obtain ⟨t313, A830, H⟩ := H
   replace H : (if t313 = (wrap64 (-t310)) then ((withylaw04_fixed.f kj7).bind fun t314 => (some t314)) else (none)) = some r := H
   have A83 := Aside0.mk A830
   clear A830
   by_cases c84 : t313 = (wrap64 (-t310))
   rotate_left
   ·rw [if_neg c84] at H
    exact absurd H (by simp)
   rw [if_pos c84] at H
   have c84b0 : (t313 == (wrap64 (-t310))) = true := beq_iff_eq.mpr c84
   have c84b1 : (t313 != (wrap64 (-t310))) = false := bne_eq_false_iff_eq.mpr c84
   clear c84
   replace H := bM H
   obtain ⟨t314, A850, H⟩ := H
   replace H : (some t314) = some r := H
   have A85 := Aside0.mk A850
   clear A850
   obtain rfl := Option.some.inj H
   obtain ⟨hcz86_0, hcz86_1⟩ := zc2 BK290
   obtain ⟨hfz86_0, hfz86_1⟩ := zf2 BK290
   go_wp2_with (first | (go_at_call 18; (with_reducible refine (key_Compare.calls kj7 _ _ t291 _ _ t294 t310 _ ?side1 ?side2 ?side3 ?side4 A70.out).mono ?_); (case side1 => repeat (first | exact (Kd.R_reads' HO_0.out).2.2 | (with_reducible refine Kd.C_alloc ?_ _) | (with_reducible refine Kd.C_drewN ?_ _) | (with_reducible refine Kd.C_drew ?_))); (case side2 => exact (Kd.R_reads' HO_0.out).2.1); (case side3 => repeat (first | exact (Kd.R_reads' HO_1.out).2.2 | (with_reducible refine Kd.C_alloc ?_ _) | (with_reducible refine Kd.C_drewN ?_ _) | (with_reducible refine Kd.C_drew ?_))); (case side4 => exact (Kd.R_reads' HO_1.out).2.1); rintro e w87 ⟨rfl, hb⟩; replace HO_0 := as_ (Kd.R_below (by (with_reducible repeat (first | apply Kd.R_alloc | apply Kd.R_drewN | apply Kd.R_drew)); exact HO_0.out) hb); replace HO_1 := as_ (Kd.R_below (by (with_reducible repeat (first | apply Kd.R_alloc | apply Kd.R_drewN | apply Kd.R_drew)); exact HO_1.out) hb); replace BK290 := bb BK290 hb; replace HB := as_ (below_step bA hb); (try clear hb); (try clear hb2); (try clear hk); (try clear hi)) | (go_at_call 18; (with_reducible refine (key_Compare.calls kj7 _ _ t294 _ _ t291 t313 _ ?side1 ?side2 ?side3 ?side4 A83.out).mono ?_); (case side1 => repeat (first | exact (Kd.R_reads' HO_1.out).2.2 | (with_reducible refine Kd.C_alloc ?_ _) | (with_reducible refine Kd.C_drewN ?_ _) | (with_reducible refine Kd.C_drew ?_))); (case side2 => exact (Kd.R_reads' HO_1.out).2.1); (case side3 => repeat (first | exact (Kd.R_reads' HO_0.out).2.2 | (with_reducible refine Kd.C_alloc ?_ _) | (with_reducible refine Kd.C_drewN ?_ _) | (with_reducible refine Kd.C_drew ?_))); (case side4 => exact (Kd.R_reads' HO_0.out).2.1); rintro e w88 ⟨rfl, hb⟩; replace HO_0 := as_ (Kd.R_below (by (with_reducible repeat (first | apply Kd.R_alloc | apply Kd.R_drewN | apply Kd.R_drew)); exact HO_0.out) hb); replace HO_1 := as_ (Kd.R_below (by (with_reducible repeat (first | apply Kd.R_alloc | apply Kd.R_drewN | apply Kd.R_drew)); exact HO_1.out) hb); replace BK290 := bb BK290 hb; replace HB := as_ (below_step bA hb); (try clear hb); (try clear hb2); (try clear hk); (try clear hi)) | (go_at_call 21; (with_reducible refine (withylaw04_fixed.calls kj7  t314 _ A85.out).mono ?_); rintro e w89 ⟨rfl, hb⟩; replace HO_0 := as_ (Kd.R_below (by (with_reducible repeat (first | apply Kd.R_alloc | apply Kd.R_drewN | apply Kd.R_drew)); exact HO_0.out) hb); replace HO_1 := as_ (Kd.R_below (by (with_reducible repeat (first | apply Kd.R_alloc | apply Kd.R_drewN | apply Kd.R_drew)); exact HO_1.out) hb); replace BK290 := bb BK290 hb; replace HB := as_ (below_step bA hb); (try clear hb); (try clear hb2); (try clear hk); (try clear hi)))
   repeat (go_quiet (first | (go_at_call 18; (with_reducible refine (key_Compare.calls kj7 _ _ t291 _ _ t294 t310 _ ?side1 ?side2 ?side3 ?side4 A70.out).mono ?_); (case side1 => repeat (first | exact (Kd.R_reads' HO_0.out).2.2 | (with_reducible refine Kd.C_alloc ?_ _) | (with_reducible refine Kd.C_drewN ?_ _) | (with_reducible refine Kd.C_drew ?_))); (case side2 => exact (Kd.R_reads' HO_0.out).2.1); (case side3 => repeat (first | exact (Kd.R_reads' HO_1.out).2.2 | (with_reducible refine Kd.C_alloc ?_ _) | (with_reducible refine Kd.C_drewN ?_ _) | (with_reducible refine Kd.C_drew ?_))); (case side4 => exact (Kd.R_reads' HO_1.out).2.1); rintro e w87 ⟨rfl, hb⟩; replace HO_0 := as_ (Kd.R_below (by (with_reducible repeat (first | apply Kd.R_alloc | apply Kd.R_drewN | apply Kd.R_drew)); exact HO_0.out) hb); replace HO_1 := as_ (Kd.R_below (by (with_reducible repeat (first | apply Kd.R_alloc | apply Kd.R_drewN | apply Kd.R_drew)); exact HO_1.out) hb); replace BK290 := bb BK290 hb; replace HB := as_ (below_step bA hb); (try clear hb); (try clear hb2); (try clear hk); (try clear hi)) | (go_at_call 18; (with_reducible refine (key_Compare.calls kj7 _ _ t294 _ _ t291 t313 _ ?side1 ?side2 ?side3 ?side4 A83.out).mono ?_); (case side1 => repeat (first | exact (Kd.R_reads' HO_1.out).2.2 | (with_reducible refine Kd.C_alloc ?_ _) | (with_reducible refine Kd.C_drewN ?_ _) | (with_reducible refine Kd.C_drew ?_))); (case side2 => exact (Kd.R_reads' HO_1.out).2.1); (case side3 => repeat (first | exact (Kd.R_reads' HO_0.out).2.2 | (with_reducible refine Kd.C_alloc ?_ _) | (with_reducible refine Kd.C_drewN ?_ _) | (with_reducible refine Kd.C_drew ?_))); (case side4 => exact (Kd.R_reads' HO_0.out).2.1); rintro e w88 ⟨rfl, hb⟩; replace HO_0 := as_ (Kd.R_below (by (with_reducible repeat (first | apply Kd.R_alloc | apply Kd.R_drewN | apply Kd.R_drew)); exact HO_0.out) hb); replace HO_1 := as_ (Kd.R_below (by (with_reducible repeat (first | apply Kd.R_alloc | apply Kd.R_drewN | apply Kd.R_drew)); exact HO_1.out) hb); replace BK290 := bb BK290 hb; replace HB := as_ (below_step bA hb); (try clear hb); (try clear hb2); (try clear hk); (try clear hi)) | (go_at_call 21; (with_reducible refine (withylaw04_fixed.calls kj7  t314 _ A85.out).mono ?_); rintro e w89 ⟨rfl, hb⟩; replace HO_0 := as_ (Kd.R_below (by (with_reducible repeat (first | apply Kd.R_alloc | apply Kd.R_drewN | apply Kd.R_drew)); exact HO_0.out) hb); replace HO_1 := as_ (Kd.R_below (by (with_reducible repeat (first | apply Kd.R_alloc | apply Kd.R_drewN | apply Kd.R_drew)); exact HO_1.out) hb); replace BK290 := bb BK290 hb; replace HB := as_ (below_step bA hb); (try clear hb); (try clear hb2); (try clear hk); (try clear hi))); try go_wp2_with (first | (go_at_call 18; (with_reducible refine (key_Compare.calls kj7 _ _ t291 _ _ t294 t310 _ ?side1 ?side2 ?side3 ?side4 A70.out).mono ?_); (case side1 => repeat (first | exact (Kd.R_reads' HO_0.out).2.2 | (with_reducible refine Kd.C_alloc ?_ _) | (with_reducible refine Kd.C_drewN ?_ _) | (with_reducible refine Kd.C_drew ?_))); (case side2 => exact (Kd.R_reads' HO_0.out).2.1); (case side3 => repeat (first | exact (Kd.R_reads' HO_1.out).2.2 | (with_reducible refine Kd.C_alloc ?_ _) | (with_reducible refine Kd.C_drewN ?_ _) | (with_reducible refine Kd.C_drew ?_))); (case side4 => exact (Kd.R_reads' HO_1.out).2.1); rintro e w87 ⟨rfl, hb⟩; replace HO_0 := as_ (Kd.R_below (by (with_reducible repeat (first | apply Kd.R_alloc | apply Kd.R_drewN | apply Kd.R_drew)); exact HO_0.out) hb); replace HO_1 := as_ (Kd.R_below (by (with_reducible repeat (first | apply Kd.R_alloc | apply Kd.R_drewN | apply Kd.R_drew)); exact HO_1.out) hb); replace BK290 := bb BK290 hb; replace HB := as_ (below_step bA hb); (try clear hb); (try clear hb2); (try clear hk); (try clear hi)) | (go_at_call 18; (with_reducible refine (key_Compare.calls kj7 _ _ t294 _ _ t291 t313 _ ?side1 ?side2 ?side3 ?side4 A83.out).mono ?_); (case side1 => repeat (first | exact (Kd.R_reads' HO_1.out).2.2 | (with_reducible refine Kd.C_alloc ?_ _) | (with_reducible refine Kd.C_drewN ?_ _) | (with_reducible refine Kd.C_drew ?_))); (case side2 => exact (Kd.R_reads' HO_1.out).2.1); (case side3 => repeat (first | exact (Kd.R_reads' HO_0.out).2.2 | (with_reducible refine Kd.C_alloc ?_ _) | (with_reducible refine Kd.C_drewN ?_ _) | (with_reducible refine Kd.C_drew ?_))); (case side4 => exact (Kd.R_reads' HO_0.out).2.1); rintro e w88 ⟨rfl, hb⟩; replace HO_0 := as_ (Kd.R_below (by (with_reducible repeat (first | apply Kd.R_alloc | apply Kd.R_drewN | apply Kd.R_drew)); exact HO_0.out) hb); replace HO_1 := as_ (Kd.R_below (by (with_reducible repeat (first | apply Kd.R_alloc | apply Kd.R_drewN | apply Kd.R_drew)); exact HO_1.out) hb); replace BK290 := bb BK290 hb; replace HB := as_ (below_step bA hb); (try clear hb); (try clear hb2); (try clear hk); (try clear hi)) | (go_at_call 21; (with_reducible refine (withylaw04_fixed.calls kj7  t314 _ A85.out).mono ?_); rintro e w89 ⟨rfl, hb⟩; replace HO_0 := as_ (Kd.R_below (by (with_reducible repeat (first | apply Kd.R_alloc | apply Kd.R_drewN | apply Kd.R_drew)); exact HO_0.out) hb); replace HO_1 := as_ (Kd.R_below (by (with_reducible repeat (first | apply Kd.R_alloc | apply Kd.R_drewN | apply Kd.R_drew)); exact HO_1.out) hb); replace BK290 := bb BK290 hb; replace HB := as_ (below_step bA hb); (try clear hb); (try clear hb2); (try clear hk); (try clear hi))))
   go_ret
   exact ⟨by first | rfl | (simp [errW_none, errW_some] <;> rfl) | (simp only [← hji29, ← hjs32, ← hjs34, ← hji35, ← hjs38, ← hjs40, ← hjs44, ← hjs69]; first | rfl | (simp [errW_none, errW_some] <;> rfl)) | (simp [*, errW_none, errW_some] <;> rfl), by repeat (first | (with_reducible first | exact HB.out | apply below_alloc | apply pw_below_drewN | apply below_drew1 | refine below_set ?_ GE290.out) | exact HB.out)⟩
/-! ### withyref01_digits: function 55 -/
def withyref01_digits.l0 : Nat → Int → List Int → Option (List Int)
 | 0, _, _ => none
 | k + 1, x0, x3 => if x0 > 0 then ((some (([(Int.tmod x0 256) % 256] : List Int) : List Int)).bind fun y333 => (if y333.length + x3.length < 140737488355328 then (withyref01_digits.l0 k (IntKind.u64.wrap (Int.tdiv x0 256)) (y333 ++ x3)) else (none))) else (some x3)
def withyref01_digits.f (k : Nat) (a0 : Int) : Option (List Int) := withyref01_digits.l0 k a0 (([] : List Int))
theorem withyref01_digits.mono_l : ∀ k, (∀ y0 y1, LeO (withyref01_digits.l0 k y0 y1) (withyref01_digits.l0 (k + 1) y0 y1))
 | 0 => fun _ _ r h => by simp [withyref01_digits.l0] at h
 | k + 1 => by
  have ih0 := withyref01_digits.mono_l k
  ·intro y0 y1
   unfold withyref01_digits.l0
   repeat' first
   | (with_reducible exact ih0 _ _)
   | (with_reducible exact LeO.refl _)
   | (with_reducible exact LeO.none _)
   | (with_reducible refine LeO.ite ?_ ?_)
   | (with_reducible refine LeO.bind ?_ (fun _ => ?_))
   | exact ih0 _ _
   | exact LeO.none _
   | refine LeO.ite ?_ ?_
   | refine LeO.bind ?_ (fun _ => ?_)
theorem withyref01_digits.mono : ∀ a0 k, LeO (withyref01_digits.f k a0) (withyref01_digits.f (k + 1) a0) := by
 intro a0 k
 have ih0 := withyref01_digits.mono_l k
 unfold withyref01_digits.f
 repeat' first
   | (with_reducible exact ih0 _ _)
   | (with_reducible exact LeO.refl _)
   | (with_reducible exact LeO.none _)
   | (with_reducible refine LeO.ite ?_ ?_)
   | (with_reducible refine LeO.bind ?_ (fun _ => ?_))
   | exact ih0 _ _
   | exact LeO.none _
   | refine LeO.ite ?_ ?_
   | refine LeO.bind ?_ (fun _ => ?_)
set_option maxHeartbeats 8000000 in
set_option maxRecDepth 100000 in
theorem withyref01_digits.calls (k : Nat) (a0 : Int) (r : List Int) (w : World) (h : withyref01_digits.f k a0 = some r) :
  Calls Tryd.prog 55 #[.int .u64 a0] w fun e w' => ∃ v0_ : Value, e = .returned (v0_) ∧ Kd.R (Kd.int .u8) 5 w' w.heap.size (fun _ => True) v0_ r ∧ Below w.heap.size w w' := by
 have HB := as_ (Below.refl w.heap.size w)
 have H : (withyref01_digits.l0 k a0 (([] : List Int))) = some r := h
 clear h
 obtain ⟨y330, hy330⟩ : ∃ y_ : List Int, y_ = (([] : List Int)) := ⟨_, rfl⟩
 replace H : (withyref01_digits.l0 k a0 y330) = some r := by first | (rw [hy330]; with_reducible exact H) | (have H2_ := (Option.bind_some _ _).symm.trans H; rw [hy330]; with_reducible exact H2_) | (have H2_ := (Option.bind_some _ _).symm.trans H; with_reducible exact H2_) | with_reducible exact H | (rw [hy330]; exact H) | exact H
 have Ny330 := Aside0.mk hy330
 clear hy330
 have H' := Aside0.mk H
 clear H
 go_enter Tryd.func55, Tryd.ntmps55
 go_wp2_with (first | ((with_reducible refine gate_dst (N := 5) rfl ?_); refine Kd.R_lit (Kd.int .u8) _ 5 ?hg (N := 5) ?hd (xs := ([] : List Int)) (inner := []) (ok := fun _ => True) (okp := fun _ => True) ?hr ?hp (fun _ hk => hk) trivial (Below.refl _ _) (Nat.le_refl _) (by simp) ?_; (case hd => rfl); (case hg => rfl); (case hr => first | (go_simp; done) | (go_simp; rfl)); (case hp => exact (Reps.none _ _)); intro v331 w2 ho3 hb hg_ hnew_; clear hg_ hnew_; (first | rw [← Ny330.out] at ho3 | (simp only [Int.reduceToNat] at ho3; rw [← Ny330.out] at ho3)); have HO332 := as_ (Kd.R_lower ho3 (below_size bA)); replace HB := as_ (below_step bA hb); clear hb ho3))
 go_loopg [0, 3] k (fun kq v0 v3 w' => ∃ (x0_1 : Int) (x3_1 : List Int), v0 = .int .u64 x0_1 ∧ Aside0 (withyref01_digits.l0 kq x0_1 x3_1 = some r) ∧ Aside0 (kq ≤ k) ∧ Aside0 (Kd.R (Kd.int .u8) 5 w' w.heap.size (fun _ => True) v3 x3_1) ∧ Aside0 (Below w.heap.size w w'))
 case atStart => exact ⟨(a0), (y330), (by first | rfl | (simp; done) | (simp [*]; done)), H', ⟨Nat.le_refl _⟩, ⟨by (with_reducible repeat (first | apply Kd.R_alloc | apply Kd.R_drewN | apply Kd.R_drew)); exact HO332.out⟩, ⟨by repeat (first | (with_reducible first | exact HB.out | apply below_alloc | apply pw_below_drewN | apply below_drew1) | exact HB.out)⟩⟩
 case round =>
  clear H'
  try clear p2
  obtain ⟨x0_1, x3_1, rfl, HA, HK1, HO_3, HB⟩ := hrel
  cases gk with
  | zero => exact absurd HA.out (by simp [withyref01_digits.l0])
  | succ k1 =>
   have H := HA.out
   clear HA
   simp only [withyref01_digits.l0] at H
   by_cases c4 : x0_1 > 0
   rotate_left
   ·rw [if_neg c4] at H
    have c4b0 : decide (0 < x0_1) = false := decide_eq_false c4
    clear c4
    obtain rfl := Option.some.inj H
    go_wp2
    go_ret
    exact ⟨_, eW, by (with_reducible repeat (first | apply Kd.R_alloc | apply Kd.R_drewN | apply Kd.R_drew)); exact HO_3.out, by repeat (first | (with_reducible first | exact HB.out | apply below_alloc | apply pw_below_drewN | apply below_drew1) | exact HB.out)⟩
 
   rw [if_pos c4] at H
   have c4b0 : decide (0 < x0_1) = true := decide_eq_true c4
   clear c4
   obtain ⟨y333, hy333⟩ : ∃ y_ : List Int, y_ = (([(Int.tmod x0_1 256) % 256] : List Int)) := ⟨_, rfl⟩
   replace H : (if y333.length + x3_1.length < 140737488355328 then (withyref01_digits.l0 k1 (IntKind.u64.wrap (Int.tdiv x0_1 256)) (y333 ++ x3_1)) else (none)) = some r := by first | (rw [hy333]; with_reducible exact H) | (have H2_ := (Option.bind_some _ _).symm.trans H; rw [hy333]; with_reducible exact H2_) | (have H2_ := (Option.bind_some _ _).symm.trans H; with_reducible exact H2_) | with_reducible exact H | (rw [hy333]; exact H) | exact H
   have Ny333 := Aside0.mk hy333
   clear hy333
   by_cases c5 : y333.length + x3_1.length < 140737488355328
   rotate_left
   ·rw [if_neg c5] at H
    exact absurd H (by simp)
   rw [if_pos c5] at H
   have LMc5 := Aside0.mk c5
   clear c5
   obtain ⟨y336, hy336⟩ : ∃ y_ : List Int, y_ = (y333 ++ x3_1) := ⟨_, rfl⟩
   replace H : (withyref01_digits.l0 k1 (IntKind.u64.wrap (Int.tdiv x0_1 256)) y336) = some r := by first | (rw [hy336]; with_reducible exact H) | (have H2_ := (Option.bind_some _ _).symm.trans H; rw [hy336]; with_reducible exact H2_) | (have H2_ := (Option.bind_some _ _).symm.trans H; with_reducible exact H2_) | with_reducible exact H | (rw [hy336]; exact H) | exact H
   have Ny336 := Aside0.mk hy336
   clear hy336
   have H' := Aside0.mk H
   clear H
   go_wp2_with (first | ((with_reducible refine gate_dst (N := 11) rfl ?_); refine Kd.R_lit (Kd.int .u8) _ 5 ?hg (N := 11) ?hd (xs := ([(Int.tmod x0_1 256) % 256] : List Int)) (inner := [.int .u8 ((Int.tmod x0_1 256) % 256)]) (ok := fun _ => True) (okp := fun _ => True) ?hr ?hp (fun _ hk => hk) trivial (Below.refl _ _) (Nat.le_refl _) (by simp) ?_; (case hd => rfl); (case hg => rfl); (case hr => first | (go_simp; done) | (go_simp; rfl)); (case hp => exact (Reps.one (show Kd.M (Kd.int .u8) _ _ _ ((Int.tmod x0_1 256) % 256) [.int .u8 ((Int.tmod x0_1 256) % 256)] from rfl) (Reps.none _ _))); intro v334 w6 ho7 hb hg_ hnew_; clear hg_ hnew_; (first | rw [← Ny333.out] at ho7 | (simp only [Int.reduceToNat] at ho7; rw [← Ny333.out] at ho7)); have HO335 := as_ (Kd.R_lower (Kd.R_new' ho7 (Kd.R_lt (by (with_reducible repeat (first | apply Kd.R_alloc | apply Kd.R_drewN | apply Kd.R_drew)); exact HO_3.out))) (below_size bA)); replace HO_3 := as_ (Kd.R_elder' (by (with_reducible repeat (first | apply Kd.R_alloc | apply Kd.R_drewN | apply Kd.R_drew)); exact HO_3.out) (Kd.R_base ho7) hb); replace HB := as_ (below_step bA hb); clear hb ho7; obtain ⟨Ao9, co9, eo9⟩ := Kd.R_slice HO_3.out; subst eo9) | ((with_reducible refine gate_builtin (b := .append) (xs := #[.tmp 12, .tmp 13]) rfl ?_); at_builtin; refine Kd.R_append_rows (Kd.int .u8) (w0 := w) w.heap.size rfl (.tmp 12) (.tmp 13) 45 5 (.int .u8 0) 1 rfl Tryd.underlying45 info5 rfl (by decide) (by omega) v334 y333 x3_1 _ _ _ (fun k_ => some k_ ≠ (.slice Ao9 x3_1.length co9 : Value).ownBlock) (fun _ => False) rfl rfl ?aO ?aR (fun _ _ h => h) (fun _ h => h.elim) ?aF ?aB ?aS ?aL ?_; (case aR => repeat (first | exact (Kd.R_reads' HO_3.out).2.2 | (with_reducible refine Kd.C_alloc ?_ _) | (with_reducible refine Kd.C_drewN ?_ _) | (with_reducible refine Kd.C_drew ?_))); (case aB => exact bA); (case aF => exact (fun k_ hk => Kd.fresh' (Kd.R_lt (by (with_reducible repeat (first | apply Kd.R_alloc | apply Kd.R_drewN | apply Kd.R_drew)); exact HO_3.out)) k_ hk)); (case aO => exact (by (with_reducible repeat (first | apply Kd.R_alloc | apply Kd.R_drewN | apply Kd.R_drew)); exact Kd.R_mono HO335.out (fun _ hk => hk.2))); (case aS => exact (below_size bA)); (case aL => have := LMc5.out; omega); intro v337 w8 ho hb hg hat; rw [← Ny336.out] at ho; have HO338 := as_ (ho); replace HO_3 := as_ (Kd.R_after (ok := (fun _ => True)) (by (with_reducible repeat (first | apply Kd.R_alloc | apply Kd.R_drewN | apply Kd.R_drew)); exact HO_3.out) hg hat); replace HB := as_ (hb); clear HO335; clear ho hb hg hat))
   go_roundg k1
   case measure => have := HK1.out; omega
   case rel => exact ⟨(IntKind.u64.wrap (Int.tdiv x0_1 256)), (y336), (by first | rfl | (simp; done) | (simp [*]; done)), H', ⟨by have := HK1.out; omega⟩, ⟨by (with_reducible repeat (first | apply Kd.R_alloc | apply Kd.R_drewN | apply Kd.R_drew)); exact Kd.R_mono HO338.out (fun _ hk => trivial)⟩, ⟨by repeat (first | (with_reducible first | exact HB.out | apply below_alloc | apply pw_below_drewN | apply below_drew1) | exact HB.out)⟩⟩
/-! ### withyref01_Put: function 44 -/
def withyref01_Put.f (k : Nat) (a0 : Int) : Option (ByteArray) := if a0 ≤ 240 then (some (strOfNums (([(a0) % 256] : List Int)))) else (if a0 ≤ 2287 then (some (strOfNums (([(IntKind.u64.wrap (241 + (IntKind.u64.wrap (Int.tdiv (IntKind.u64.wrap (a0 - 240)) 256)))) % 256, (Int.tmod (IntKind.u64.wrap (a0 - 240)) 256) % 256] : List Int)))) else (if a0 ≤ 67823 then (some (strOfNums (([249, (IntKind.u64.wrap (Int.tdiv (IntKind.u64.wrap (a0 - 2288)) 256)) % 256, (Int.tmod (IntKind.u64.wrap (a0 - 2288)) 256) % 256] : List Int)))) else ((withyref01_digits.f k a0).bind fun t348 => ((some (([(wrap64 (247 + (t348.length : Int))) % 256] : List Int) : List Int)).bind fun y351 => (if (strOfNums y351).size + (strOfNums t348).size ≤ 9223372036854775807 then (some ((strOfNums y351) ++ (strOfNums t348))) else (none))))))
theorem withyref01_Put.mono : ∀ a0 k, LeO (withyref01_Put.f k a0) (withyref01_Put.f (k + 1) a0) := by
 intro a0 k
 unfold withyref01_Put.f
 repeat' first
   | (with_reducible exact withyref01_digits.mono _ _)
   | (with_reducible exact LeO.refl _)
   | (with_reducible exact LeO.none _)
   | (with_reducible refine LeO.ite ?_ ?_)
   | (with_reducible refine LeO.bind ?_ (fun _ => ?_))
   | exact withyref01_digits.mono _ _
   | exact LeO.none _
   | refine LeO.ite ?_ ?_
   | refine LeO.bind ?_ (fun _ => ?_)
set_option maxHeartbeats 8000000 in
set_option maxRecDepth 100000 in
theorem withyref01_Put.calls (k : Nat) (a0 : Int) (r : ByteArray) (w : World) (h : withyref01_Put.f k a0 = some r) :
  Calls Tryd.prog 44 #[.int .u64 a0] w fun e w' => e = .returned (.string r) ∧ Below w.heap.size w w' := by
 have HB := as_ (Below.refl w.heap.size w)
 have H : (if a0 ≤ 240 then (some (strOfNums (([(a0) % 256] : List Int)))) else (if a0 ≤ 2287 then (some (strOfNums (([(IntKind.u64.wrap (241 + (IntKind.u64.wrap (Int.tdiv (IntKind.u64.wrap (a0 - 240)) 256)))) % 256, (Int.tmod (IntKind.u64.wrap (a0 - 240)) 256) % 256] : List Int)))) else (if a0 ≤ 67823 then (some (strOfNums (([249, (IntKind.u64.wrap (Int.tdiv (IntKind.u64.wrap (a0 - 2288)) 256)) % 256, (Int.tmod (IntKind.u64.wrap (a0 - 2288)) 256) % 256] : List Int)))) else ((withyref01_digits.f k a0).bind fun t348 => ((some (([(wrap64 (247 + (t348.length : Int))) % 256] : List Int) : List Int)).bind fun y351 => (if (strOfNums y351).size + (strOfNums t348).size ≤ 9223372036854775807 then (some ((strOfNums y351) ++ (strOfNums t348))) else (none))))))) = some r := h
 clear h
 by_cases c2 : a0 ≤ 240
 ·rw [if_pos c2] at H
  have c2b0 : decide (a0 ≤ 240) = true := decide_eq_true c2
  clear c2
  obtain ⟨y339, hy339⟩ : ∃ y_ : List Int, y_ = (([(a0) % 256] : List Int)) := ⟨_, rfl⟩
  replace H : (some (strOfNums y339)) = some r := by first | (rw [hy339]; with_reducible exact H) | (have H2_ := (Option.bind_some _ _).symm.trans H; rw [hy339]; with_reducible exact H2_) | (have H2_ := (Option.bind_some _ _).symm.trans H; with_reducible exact H2_) | with_reducible exact H | (rw [hy339]; exact H) | exact H
  have Ny339 := Aside0.mk hy339
  clear hy339
  obtain rfl := Option.some.inj H
  go_enter Tryd.func44, Tryd.ntmps44
  go_wp2_with (first | ((with_reducible refine gate_dst (N := 8) rfl ?_); refine Kd.R_lit (Kd.int .u8) _ 5 ?hg (N := 8) ?hd (xs := ([(a0) % 256] : List Int)) (inner := [.int .u8 ((a0) % 256)]) (ok := fun _ => True) (okp := fun _ => True) ?hr ?hp (fun _ hk => hk) trivial (Below.refl _ _) (Nat.le_refl _) (by simp) ?_; (case hd => rfl); (case hg => rfl); (case hr => first | (go_simp; done) | (go_simp; rfl)); (case hp => exact (Reps.one (show Kd.M (Kd.int .u8) _ _ _ ((a0) % 256) [.int .u8 ((a0) % 256)] from rfl) (Reps.none _ _))); intro v340 w3 ho4 hb hg_ hnew_; clear hg_ hnew_; (first | rw [← Ny339.out] at ho4 | (simp only [Int.reduceToNat] at ho4; rw [← Ny339.out] at ho4)); have HO341 := as_ (Kd.R_lower ho4 (below_size bA)); replace HB := as_ (below_step bA hb); clear hb ho4; have hcv5 := own_string (P := Tryd.prog) Tryd.underlying45 Tryd.underlying5 Tryd.underlying9 (Kd.own_of_R HO341.out)))
  go_ret
  exact ⟨eW, by repeat (first | (with_reducible first | exact HB.out | apply below_alloc | apply pw_below_drewN | apply below_drew1) | exact HB.out)⟩
 rw [if_neg c2] at H
 have c2b0 : decide (a0 ≤ 240) = false := decide_eq_false c2
 clear c2
 by_cases c6 : a0 ≤ 2287
 ·rw [if_pos c6] at H
  have c6b0 : decide (a0 ≤ 2287) = true := decide_eq_true c6
  clear c6
  obtain ⟨y342, hy342⟩ : ∃ y_ : List Int, y_ = (([(IntKind.u64.wrap (241 + (IntKind.u64.wrap (Int.tdiv (IntKind.u64.wrap (a0 - 240)) 256)))) % 256, (Int.tmod (IntKind.u64.wrap (a0 - 240)) 256) % 256] : List Int)) := ⟨_, rfl⟩
  replace H : (some (strOfNums y342)) = some r := by first | (rw [hy342]; with_reducible exact H) | (have H2_ := (Option.bind_some _ _).symm.trans H; rw [hy342]; with_reducible exact H2_) | (have H2_ := (Option.bind_some _ _).symm.trans H; with_reducible exact H2_) | with_reducible exact H | (rw [hy342]; exact H) | exact H
  have Ny342 := Aside0.mk hy342
  clear hy342
  obtain rfl := Option.some.inj H
  go_enter Tryd.func44, Tryd.ntmps44
  go_wp2_with (first | ((with_reducible refine gate_dst (N := 21) rfl ?_); refine Kd.R_lit (Kd.int .u8) _ 5 ?hg (N := 21) ?hd (xs := ([(IntKind.u64.wrap (241 + (IntKind.u64.wrap (Int.tdiv (IntKind.u64.wrap (a0 - 240)) 256)))) % 256, (Int.tmod (IntKind.u64.wrap (a0 - 240)) 256) % 256] : List Int)) (inner := [.int .u8 ((IntKind.u64.wrap (241 + (IntKind.u64.wrap (Int.tdiv (IntKind.u64.wrap (a0 - 240)) 256)))) % 256), .int .u8 ((Int.tmod (IntKind.u64.wrap (a0 - 240)) 256) % 256)]) (ok := fun _ => True) (okp := fun _ => True) ?hr ?hp (fun _ hk => hk) trivial (Below.refl _ _) (Nat.le_refl _) (by simp) ?_; (case hd => rfl); (case hg => rfl); (case hr => first | (go_simp; done) | (go_simp; rfl)); (case hp => exact (Reps.one (show Kd.M (Kd.int .u8) _ _ _ ((IntKind.u64.wrap (241 + (IntKind.u64.wrap (Int.tdiv (IntKind.u64.wrap (a0 - 240)) 256)))) % 256) [.int .u8 ((IntKind.u64.wrap (241 + (IntKind.u64.wrap (Int.tdiv (IntKind.u64.wrap (a0 - 240)) 256)))) % 256)] from rfl) (Reps.one (show Kd.M (Kd.int .u8) _ _ _ ((Int.tmod (IntKind.u64.wrap (a0 - 240)) 256) % 256) [.int .u8 ((Int.tmod (IntKind.u64.wrap (a0 - 240)) 256) % 256)] from rfl) (Reps.none _ _)))); intro v343 w7 ho8 hb hg_ hnew_; clear hg_ hnew_; (first | rw [← Ny342.out] at ho8 | (simp only [Int.reduceToNat] at ho8; rw [← Ny342.out] at ho8)); have HO344 := as_ (Kd.R_lower ho8 (below_size bA)); replace HB := as_ (below_step bA hb); clear hb ho8; have hcv9 := own_string (P := Tryd.prog) Tryd.underlying45 Tryd.underlying5 Tryd.underlying9 (Kd.own_of_R HO344.out)))
  go_ret
  exact ⟨eW, by repeat (first | (with_reducible first | exact HB.out | apply below_alloc | apply pw_below_drewN | apply below_drew1) | exact HB.out)⟩
 rw [if_neg c6] at H
 have c6b0 : decide (a0 ≤ 2287) = false := decide_eq_false c6
 clear c6
 by_cases c10 : a0 ≤ 67823
 ·rw [if_pos c10] at H
  have c10b0 : decide (a0 ≤ 67823) = true := decide_eq_true c10
  clear c10
  obtain ⟨y345, hy345⟩ : ∃ y_ : List Int, y_ = (([249, (IntKind.u64.wrap (Int.tdiv (IntKind.u64.wrap (a0 - 2288)) 256)) % 256, (Int.tmod (IntKind.u64.wrap (a0 - 2288)) 256) % 256] : List Int)) := ⟨_, rfl⟩
  replace H : (some (strOfNums y345)) = some r := by first | (rw [hy345]; with_reducible exact H) | (have H2_ := (Option.bind_some _ _).symm.trans H; rw [hy345]; with_reducible exact H2_) | (have H2_ := (Option.bind_some _ _).symm.trans H; with_reducible exact H2_) | with_reducible exact H | (rw [hy345]; exact H) | exact H
  have Ny345 := Aside0.mk hy345
  clear hy345
  obtain rfl := Option.some.inj H
  go_enter Tryd.func44, Tryd.ntmps44
  go_wp2_with (first | ((with_reducible refine gate_dst (N := 33) rfl ?_); refine Kd.R_lit (Kd.int .u8) _ 5 ?hg (N := 33) ?hd (xs := ([249, (IntKind.u64.wrap (Int.tdiv (IntKind.u64.wrap (a0 - 2288)) 256)) % 256, (Int.tmod (IntKind.u64.wrap (a0 - 2288)) 256) % 256] : List Int)) (inner := [.int .u8 249, .int .u8 ((IntKind.u64.wrap (Int.tdiv (IntKind.u64.wrap (a0 - 2288)) 256)) % 256), .int .u8 ((Int.tmod (IntKind.u64.wrap (a0 - 2288)) 256) % 256)]) (ok := fun _ => True) (okp := fun _ => True) ?hr ?hp (fun _ hk => hk) trivial (Below.refl _ _) (Nat.le_refl _) (by simp) ?_; (case hd => rfl); (case hg => rfl); (case hr => first | (go_simp; done) | (go_simp; rfl)); (case hp => exact (Reps.one (show Kd.M (Kd.int .u8) _ _ _ 249 [.int .u8 249] from rfl) (Reps.one (show Kd.M (Kd.int .u8) _ _ _ ((IntKind.u64.wrap (Int.tdiv (IntKind.u64.wrap (a0 - 2288)) 256)) % 256) [.int .u8 ((IntKind.u64.wrap (Int.tdiv (IntKind.u64.wrap (a0 - 2288)) 256)) % 256)] from rfl) (Reps.one (show Kd.M (Kd.int .u8) _ _ _ ((Int.tmod (IntKind.u64.wrap (a0 - 2288)) 256) % 256) [.int .u8 ((Int.tmod (IntKind.u64.wrap (a0 - 2288)) 256) % 256)] from rfl) (Reps.none _ _))))); intro v346 w11 ho12 hb hg_ hnew_; clear hg_ hnew_; (first | rw [← Ny345.out] at ho12 | (simp only [Int.reduceToNat] at ho12; rw [← Ny345.out] at ho12)); have HO347 := as_ (Kd.R_lower ho12 (below_size bA)); replace HB := as_ (below_step bA hb); clear hb ho12; have hcv13 := own_string (P := Tryd.prog) Tryd.underlying45 Tryd.underlying5 Tryd.underlying9 (Kd.own_of_R HO347.out)))
  go_ret
  exact ⟨eW, by repeat (first | (with_reducible first | exact HB.out | apply below_alloc | apply pw_below_drewN | apply below_drew1) | exact HB.out)⟩
 rw [if_neg c10] at H
 have c10b0 : decide (a0 ≤ 67823) = false := decide_eq_false c10
 clear c10
 replace H := bM H
 obtain ⟨t348, A140, H⟩ := H
 replace H : ((some (([(wrap64 (247 + (t348.length : Int))) % 256] : List Int) : List Int)).bind fun y351 => (if (strOfNums y351).size + (strOfNums t348).size ≤ 9223372036854775807 then (some ((strOfNums y351) ++ (strOfNums t348))) else (none))) = some r := H
 have A14 := Aside0.mk A140
 clear A140
 obtain ⟨y351, hy351⟩ : ∃ y_ : List Int, y_ = (([(wrap64 (247 + (t348.length : Int))) % 256] : List Int)) := ⟨_, rfl⟩
 replace H : (if (strOfNums y351).size + (strOfNums t348).size ≤ 9223372036854775807 then (some ((strOfNums y351) ++ (strOfNums t348))) else (none)) = some r := by first | (rw [hy351]; with_reducible exact H) | (have H2_ := (Option.bind_some _ _).symm.trans H; rw [hy351]; with_reducible exact H2_) | (have H2_ := (Option.bind_some _ _).symm.trans H; with_reducible exact H2_) | with_reducible exact H | (rw [hy351]; exact H) | exact H
 have Ny351 := Aside0.mk hy351
 clear hy351
 by_cases c15 : (strOfNums y351).size + (strOfNums t348).size ≤ 9223372036854775807
 rotate_left
 ·rw [if_neg c15] at H
  exact absurd H (by simp)
 
 rw [if_pos c15] at H
 have c15b0 := eq_true c15
 have c15b1 : decide ((strOfNums y351).size + (strOfNums t348).size ≤ 9223372036854775807) = true := decide_eq_true c15
 try have c15b2 : (9223372036854775807 < (strOfNums y351).size + (strOfNums t348).size) = False := eq_false (Nat.not_lt.2 c15)
 obtain ⟨js16, hjs16⟩ : ∃ j_ : ByteArray, ((strOfNums y351) ++ (strOfNums t348)) = j_ := ⟨_, rfl⟩
 replace H : (some js16) = some r := by first | (rw [hjs16] at H; exact H) | (simp only [hjs16] at H ⊢; exact H)
 (try rw [hjs16] at A14)
 obtain rfl := Option.some.inj H
 go_enter Tryd.func44, Tryd.ntmps44
 go_wp2_with (first | ((with_reducible refine gate_callee (f := 55) rfl ?_); refine goesL_ (some 36) rfl rfl Tryd.func55 (by kernel_rfl) rfl #[.int .u64 a0] rfl aO ?_; (with_reducible refine (withyref01_digits.calls k a0 t348 _ A14.out).mono ?_); rintro e w17 ⟨v349, rfl, ho0, hb⟩; refine ⟨_, rfl, ?_⟩; have HO350 := as_ (Kd.R_lower ho0 (below_size bA)); replace HB := as_ (below_step bA hb); (try clear hb); (try clear hb2); (try clear hk); (try clear hi); (try clear ho0); obtain ⟨Ao18, co18, eo18⟩ := Kd.R_slice HO350.out; subst eo18) | ((with_reducible refine gate_dst (N := 41) rfl ?_); refine Kd.R_lit (Kd.int .u8) _ 5 ?hg (N := 41) ?hd (xs := ([(wrap64 (247 + (t348.length : Int))) % 256] : List Int)) (inner := [.int .u8 ((wrap64 (247 + (t348.length : Int))) % 256)]) (ok := fun _ => True) (okp := fun _ => True) ?hr ?hp (fun _ hk => hk) trivial (Below.refl _ _) (Nat.le_refl _) (by simp) ?_; (case hd => rfl); (case hg => rfl); (case hr => first | (go_simp; done) | (go_simp; rfl)); (case hp => exact (Reps.one (show Kd.M (Kd.int .u8) _ _ _ ((wrap64 (247 + (t348.length : Int))) % 256) [.int .u8 ((wrap64 (247 + (t348.length : Int))) % 256)] from rfl) (Reps.none _ _))); intro v352 w19 ho20 hb hg_ hnew_; clear hg_ hnew_; (first | rw [← Ny351.out] at ho20 | (simp only [Int.reduceToNat] at ho20; rw [← Ny351.out] at ho20)); have HO353 := as_ (Kd.R_lower (Kd.R_new' ho20 (Kd.R_lt (by (with_reducible repeat (first | apply Kd.R_alloc | apply Kd.R_drewN | apply Kd.R_drew)); exact HO350.out))) (below_size bA)); replace HO350 := as_ (Kd.R_elder' (by (with_reducible repeat (first | apply Kd.R_alloc | apply Kd.R_drewN | apply Kd.R_drew)); exact HO350.out) (Kd.R_base ho20) hb); replace HB := as_ (below_step bA hb); clear hb ho20; have hcv21 := own_string (P := Tryd.prog) Tryd.underlying45 Tryd.underlying5 Tryd.underlying9 (Kd.own_of_R HO353.out); have hcv22 := own_string (P := Tryd.prog) Tryd.underlying45 Tryd.underlying5 Tryd.underlying9 (Kd.own_of_R HO350.out)))
 go_ret
 exact ⟨by first | rfl | (simp [errW_none, errW_some] <;> rfl) | (simp only [← hjs16]; first | rfl | (simp [errW_none, errW_some] <;> rfl)) | (simp [*, errW_none, errW_some] <;> rfl), by repeat (first | (with_reducible first | exact HB.out | apply below_alloc | apply pw_below_drewN | apply below_drew1) | exact HB.out)⟩
end Go.Proofs.YthaicofleloplaaDoor.P
