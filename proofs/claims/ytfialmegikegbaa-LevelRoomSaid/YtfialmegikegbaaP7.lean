/- What is proved here: for functions of the Go text, a Lean function each, and that the call comes to just what it answers. Conditions: as each contract names them. Written by wip/tools/myprint.py, a driver of the print of the kit. -/
import Derived.Test.YtfialmegikegbaaP0
import Derived.Test.YtfialmegikegbaaP4
import Derived.Test.YtfialmegikegbaaP6
import Derived.Test.YtfialmegikegbaaWAbbr
namespace Go.Proofs.Ytfialmegikegbaa.P
open Go.RowKit Go.Proofs.YtfialmegikegbaaW.PrintWords Go.Proofs.YtfialmegikegbaaW.PrintLast Go.Proofs.YtfialmegikegbaaW.PrintMore Go.Proofs.YtfialmegikegbaaW.Abbr
-- PACKED
attribute [local go_sem] max2_int min2_int max_two min_two max_three min_three max_four min_four Go.Proofs.YtfialmegikegbaaLaws.str_leq Go.Proofs.YtfialmegikegbaaLaws.str_gtr Go.Proofs.YtfialmegikegbaaLaws.str_geq Go.Proofs.YtfialmegikegbaaLaws.max2_str Go.Proofs.YtfialmegikegbaaLaws.min2_str   -- for this text's walks alone
set_option linter.unusedVariables false
set_option linter.unusedSimpArgs false

/-! ### inner_May: function 39 -/
mutual
def inner_May.j0 : Nat → Int → Bool → Int → Int → Int → ByteArray → List Int → List ByteArray → Option (Bool)
 | 0, _, _, _, _, _, _, _, _ => none
 | k + 1, x1, x45, x352000, x352001, x352002, x352003, x352004, x352005 => if x45 = true then (some false) else (if (x352004.length : Int) = (wrap64 ((x352005.length : Int) + 1)) then ((slices_ContainsFunc_int_int.f x352004 48484848).bind fun t355 => (if t355 = true then (inner_May.j1 k x1 true x352000 x352001 x352002 x352003 x352004 x352005) else (if ((x352002 == 0) != (x352003.toList == ([] : List UInt8))) = true then (inner_May.j1 k x1 true x352000 x352001 x352002 x352003 x352004 x352005) else (inner_May.j1 k x1 (decide ((x352003.size : Int) > (wrap64 (Int.tdiv x1 8)))) x352000 x352001 x352002 x352003 x352004 x352005)))) else (inner_May.j1 k x1 true x352000 x352001 x352002 x352003 x352004 x352005))
def inner_May.j1 : Nat → Int → Bool → Int → Int → Int → ByteArray → List Int → List ByteArray → Option (Bool)
 | 0, _, _, _, _, _, _, _, _ => none
 | k + 1, x1, x76, x352000, x352001, x352002, x352003, x352004, x352005 => if x76 = true then (some false) else (inner_May.l0 k x1 (⟨#[]⟩ : ByteArray) x352005 (x352005.length : Int) 0 x352000 x352001 x352002 x352003 x352004 x352005)
def inner_May.l0 : Nat → Int → ByteArray → List ByteArray → Int → Int → Int → Int → Int → ByteArray → List Int → List ByteArray → Option (Bool)
 | 0, _, _, _, _, _, _, _, _, _, _, _ => none
 | k + 1, x1, x6, x78, x79, x80, x352000, x352001, x352002, x352003, x352004, x352005 => if x80 < x79 then (if 0 ≤ x80 then (if x80 < (x78.length : Int) then (if ((Op.bytesLess x6.toList ((rdOf ByteArray.empty x78 x80).toList)) = true) then (if ((rdOf ByteArray.empty x78 x80).size : Int) > (wrap64 (Int.tdiv x1 8)) then (some false) else (if x352002 = 0 then (inner_May.l0 k x1 (rdOf ByteArray.empty x78 x80) x78 x79 (wrap64 (x80 + 1)) x352000 x352001 x352002 x352003 x352004 x352005) else (if ((Op.bytesLess ((rdOf ByteArray.empty x78 x80).toList) x352003.toList) = true) then (inner_May.l0 k x1 (rdOf ByteArray.empty x78 x80) x78 x79 (wrap64 (x80 + 1)) x352000 x352001 x352002 x352003 x352004 x352005) else (some false)))) else (some false)) else (none)) else (none)) else (some true)
end
def inner_May.f (k : Nat) (a0_0 : Int) (a0_1 : Int) (a0_2 : Int) (a0_3 : ByteArray) (l0_4 : List Int) (l0_5 : List ByteArray) (a1 : Int) : Option (Bool) := (disk_Size.f a1).bind fun t352 => (if t352 = true then ((inner_number.f a0_0).bind fun t353 => (if t353 = true then (if a0_1 < 1 then (inner_May.j0 k a1 true a0_0 a0_1 a0_2 a0_3 l0_4 l0_5) else (if a0_1 ≥ 256 then (inner_May.j0 k a1 true a0_0 a0_1 a0_2 a0_3 l0_4 l0_5) else (if a0_2 = 0 then (inner_May.j0 k a1 (a0_2 == a0_0) a0_0 a0_1 a0_2 a0_3 l0_4 l0_5) else ((inner_number.f a0_2).bind fun t354 => (if t354 = true then (inner_May.j0 k a1 (a0_2 == a0_0) a0_0 a0_1 a0_2 a0_3 l0_4 l0_5) else (inner_May.j0 k a1 true a0_0 a0_1 a0_2 a0_3 l0_4 l0_5)))))) else (inner_May.j0 k a1 true a0_0 a0_1 a0_2 a0_3 l0_4 l0_5))) else (inner_May.j0 k a1 true a0_0 a0_1 a0_2 a0_3 l0_4 l0_5))
theorem inner_May.mono_l : ∀ k, (∀ y0 y1 y2 y3 y4 y5 y6 y7, LeO (inner_May.j0 k y0 y1 y2 y3 y4 y5 y6 y7) (inner_May.j0 (k + 1) y0 y1 y2 y3 y4 y5 y6 y7)) ∧ (∀ y0 y1 y2 y3 y4 y5 y6 y7, LeO (inner_May.j1 k y0 y1 y2 y3 y4 y5 y6 y7) (inner_May.j1 (k + 1) y0 y1 y2 y3 y4 y5 y6 y7)) ∧ (∀ y0 y1 y2 y3 y4 y5 y6 y7 y8 y9 y10, LeO (inner_May.l0 k y0 y1 y2 y3 y4 y5 y6 y7 y8 y9 y10) (inner_May.l0 (k + 1) y0 y1 y2 y3 y4 y5 y6 y7 y8 y9 y10))
 | 0 => ⟨fun _ _ _ _ _ _ _ _ r h => by simp [inner_May.j0] at h, fun _ _ _ _ _ _ _ _ r h => by simp [inner_May.j1] at h, fun _ _ _ _ _ _ _ _ _ _ _ r h => by simp [inner_May.l0] at h⟩
 | k + 1 => by
  obtain ⟨ih0, ih1, ih2⟩ := inner_May.mono_l k
  refine ⟨?_, ?_, ?_⟩
  ·intro y0 y1 y2 y3 y4 y5 y6 y7
   unfold inner_May.j0
   repeat' first
   | (with_reducible exact ih0 _ _ _ _ _ _ _ _)
   | (with_reducible exact ih1 _ _ _ _ _ _ _ _)
   | (with_reducible exact ih2 _ _ _ _ _ _ _ _ _ _ _)
   | (with_reducible exact LeO.refl _)
   | (with_reducible exact LeO.none _)
   | (with_reducible refine LeO.ite ?_ ?_)
   | (with_reducible refine LeO.bind ?_ (fun _ => ?_))
   | exact ih0 _ _ _ _ _ _ _ _
   | exact ih1 _ _ _ _ _ _ _ _
   | exact ih2 _ _ _ _ _ _ _ _ _ _ _
   | exact LeO.none _
   | refine LeO.ite ?_ ?_
   | refine LeO.bind ?_ (fun _ => ?_)
  ·intro y0 y1 y2 y3 y4 y5 y6 y7
   unfold inner_May.j1
   repeat' first
   | (with_reducible exact ih0 _ _ _ _ _ _ _ _)
   | (with_reducible exact ih1 _ _ _ _ _ _ _ _)
   | (with_reducible exact ih2 _ _ _ _ _ _ _ _ _ _ _)
   | (with_reducible exact LeO.refl _)
   | (with_reducible exact LeO.none _)
   | (with_reducible refine LeO.ite ?_ ?_)
   | (with_reducible refine LeO.bind ?_ (fun _ => ?_))
   | exact ih0 _ _ _ _ _ _ _ _
   | exact ih1 _ _ _ _ _ _ _ _
   | exact ih2 _ _ _ _ _ _ _ _ _ _ _
   | exact LeO.none _
   | refine LeO.ite ?_ ?_
   | refine LeO.bind ?_ (fun _ => ?_)
  ·intro y0 y1 y2 y3 y4 y5 y6 y7 y8 y9 y10
   unfold inner_May.l0
   repeat' first
   | (with_reducible exact ih0 _ _ _ _ _ _ _ _)
   | (with_reducible exact ih1 _ _ _ _ _ _ _ _)
   | (with_reducible exact ih2 _ _ _ _ _ _ _ _ _ _ _)
   | (with_reducible exact LeO.refl _)
   | (with_reducible exact LeO.none _)
   | (with_reducible refine LeO.ite ?_ ?_)
   | (with_reducible refine LeO.bind ?_ (fun _ => ?_))
   | exact ih0 _ _ _ _ _ _ _ _
   | exact ih1 _ _ _ _ _ _ _ _
   | exact ih2 _ _ _ _ _ _ _ _ _ _ _
   | exact LeO.none _
   | refine LeO.ite ?_ ?_
   | refine LeO.bind ?_ (fun _ => ?_)
theorem inner_May.mono : ∀ a0 a1 a2 a3 a4 a5 a6 k, LeO (inner_May.f k a0 a1 a2 a3 a4 a5 a6) (inner_May.f (k + 1) a0 a1 a2 a3 a4 a5 a6) := by
 intro a0 a1 a2 a3 a4 a5 a6 k
 obtain ⟨ih0, ih1, ih2⟩ := inner_May.mono_l k
 unfold inner_May.f
 repeat' first
   | (with_reducible exact ih0 _ _ _ _ _ _ _ _)
   | (with_reducible exact ih1 _ _ _ _ _ _ _ _)
   | (with_reducible exact ih2 _ _ _ _ _ _ _ _ _ _ _)
   | (with_reducible exact LeO.refl _)
   | (with_reducible exact LeO.none _)
   | (with_reducible refine LeO.ite ?_ ?_)
   | (with_reducible refine LeO.bind ?_ (fun _ => ?_))
   | exact ih0 _ _ _ _ _ _ _ _
   | exact ih1 _ _ _ _ _ _ _ _
   | exact ih2 _ _ _ _ _ _ _ _ _ _ _
   | exact LeO.none _
   | refine LeO.ite ?_ ?_
   | refine LeO.bind ?_ (fun _ => ?_)
set_option maxHeartbeats 8000000 in
set_option maxRecDepth 100000 in
theorem inner_May.calls (k : Nat) (a0_0 : Int) (a0_1 : Int) (a0_2 : Int) (a0_3 : ByteArray) (A0_4 : Option Addr) (c0_4 : Nat) (l0_4 : List Int) (A0_5 : Option Addr) (c0_5 : Nat) (l0_5 : List ByteArray) (a1 : Int) (r : Bool) (w : World) (hr0_4 : Kd.C (Kd.int .i64) w A0_4 l0_4.length l0_4) (hc0_4 : l0_4.length ≤ c0_4) (hr0_5 : Kd.C Kd.string w A0_5 l0_5.length l0_5) (hc0_5 : l0_5.length ≤ c0_5) (h : inner_May.f k a0_0 a0_1 a0_2 a0_3 l0_4 l0_5 a1 = some r) :
  Calls Try.prog 39 #[.agg #[.int .i64 a0_0, .int .i64 a0_1, .int .i64 a0_2, .string a0_3, .slice A0_4 l0_4.length c0_4, .slice A0_5 l0_5.length c0_5], .int .i64 a1] w fun e w' => e = .returned (.bool r) ∧ Below w.heap.size w w' := by
 have hu50 := Try.underlying50
 have HR0_4 := Aside0.mk hr0_4
 have HC0_4 := Aside0.mk hc0_4
 clear hr0_4 hc0_4
 have HR0_5 := Aside0.mk hr0_5
 have HC0_5 := Aside0.mk hc0_5
 clear hr0_5 hc0_5
 have HB := as_ (Below.refl w.heap.size w)
 have H : ((disk_Size.f a1).bind fun t352 => (if t352 = true then ((inner_number.f a0_0).bind fun t353 => (if t353 = true then (if a0_1 < 1 then (inner_May.j0 k a1 true a0_0 a0_1 a0_2 a0_3 l0_4 l0_5) else (if a0_1 ≥ 256 then (inner_May.j0 k a1 true a0_0 a0_1 a0_2 a0_3 l0_4 l0_5) else (if a0_2 = 0 then (inner_May.j0 k a1 (a0_2 == a0_0) a0_0 a0_1 a0_2 a0_3 l0_4 l0_5) else ((inner_number.f a0_2).bind fun t354 => (if t354 = true then (inner_May.j0 k a1 (a0_2 == a0_0) a0_0 a0_1 a0_2 a0_3 l0_4 l0_5) else (inner_May.j0 k a1 true a0_0 a0_1 a0_2 a0_3 l0_4 l0_5)))))) else (inner_May.j0 k a1 true a0_0 a0_1 a0_2 a0_3 l0_4 l0_5))) else (inner_May.j0 k a1 true a0_0 a0_1 a0_2 a0_3 l0_4 l0_5))) = some r := h
 clear h
 have HC3 := Aside0.mk H
 clear H
 go_enter Try.func39, Try.ntmps39
 (try simp only [List.append_eq, List.cons_append, List.nil_append])
 go_upto_region 1 with (first | ((with_reducible refine gate_dst (N := 2) rfl ?_); (try (refine gate_guard (by rfl) ?_; dsimp only)); refine box_event (by rfl) (N := 2) (by rfl) (cs := #[.int .i64 a0_0, .int .i64 a0_1, .int .i64 a0_2, .string a0_3, .slice A0_4 l0_4.length c0_4, .slice A0_5 l0_5.length c0_5]) (t := 50) gS ?_; intro gb351 hg w4 hbox hb; have BK351 := as_ (hbox); have GW351 := gw hg bA; have GE351 := gw hg bA; replace HB := as_ (below_step bA hb); clear hb hbox hg))
 (try simp only [Act.put, List.setIfInBounds_toArray, List.set_cons_zero, List.set_cons_succ])
 go_cut [45] (fun v45 wc => ∃ (kq : Nat) (x45_2 : Bool), v45 = .bool x45_2 ∧ Aside0 (inner_May.j0 kq a1 x45_2 a0_0 a0_1 a0_2 a0_3 l0_4 l0_5 = some r) ∧ Aside0 (kq ≤ k) ∧ Aside0 (wc.heap[gb351]? = some (.cells #[.int .i64 a0_0, .int .i64 a0_1, .int .i64 a0_2, .string a0_3, (.slice A0_4 l0_4.length c0_4), (.slice A0_5 l0_5.length c0_5)] 50 (0, 0))) ∧ Aside0 (Below w.heap.size w wc))
 case first =>
  have H := HC3.out
  clear HC3
  replace H := bM H
  obtain ⟨t352, A50, H⟩ := H
  replace H : (if t352 = true then ((inner_number.f a0_0).bind fun t353 => (if t353 = true then (if a0_1 < 1 then (inner_May.j0 k a1 true a0_0 a0_1 a0_2 a0_3 l0_4 l0_5) else (if a0_1 ≥ 256 then (inner_May.j0 k a1 true a0_0 a0_1 a0_2 a0_3 l0_4 l0_5) else (if a0_2 = 0 then (inner_May.j0 k a1 (a0_2 == a0_0) a0_0 a0_1 a0_2 a0_3 l0_4 l0_5) else ((inner_number.f a0_2).bind fun t354 => (if t354 = true then (inner_May.j0 k a1 (a0_2 == a0_0) a0_0 a0_1 a0_2 a0_3 l0_4 l0_5) else (inner_May.j0 k a1 true a0_0 a0_1 a0_2 a0_3 l0_4 l0_5)))))) else (inner_May.j0 k a1 true a0_0 a0_1 a0_2 a0_3 l0_4 l0_5))) else (inner_May.j0 k a1 true a0_0 a0_1 a0_2 a0_3 l0_4 l0_5)) = some r := H
  have A5 := Aside0.mk A50
  clear A50
  by_cases c6 : t352 = true
  rotate_left
  ·replace c6 := Bool.eq_false_iff.mpr c6
   subst c6
   have H1 : (inner_May.j0 k a1 true a0_0 a0_1 a0_2 a0_3 l0_4 l0_5) = some r := by rw [if_neg (show ¬ (false = true) by decide)] at H; exact H
   clear H
   have H := H1
   clear H1
   have H' := Aside0.mk H
   clear H
   go_wp2_with (first | ((with_reducible refine gate_callee (f := 29) rfl ?_); refine goesL_ (some 10) rfl rfl Try.func29 (by kernel_rfl) rfl #[.int .i64 a1] rfl aO ?_; (with_reducible refine (disk_Size.calls a1 false _ A5.out).mono ?_); rintro e w26 ⟨rfl, hb⟩; refine ⟨_, rfl, ?_⟩; replace BK351 := bb BK351 hb; replace HB := as_ (below_step bA hb); (try clear hb); (try clear hb2); (try clear hk); (try clear hi)))
   go_meet
   case rel => exact ⟨_, (true), (by first | rfl | (simp; done) | (simp [*]; done)), H', ⟨by first | omega | exact Nat.le_refl _⟩, ⟨by refine bx ?_; exact BK351.out⟩, ⟨by repeat (first | (with_reducible first | exact HB.out | apply below_alloc | apply pw_below_drewN | apply below_drew1 | refine below_set ?_ GE351.out) | exact HB.out)⟩⟩
  subst c6
  have H1 : ((inner_number.f a0_0).bind fun t353 => (if t353 = true then (if a0_1 < 1 then (inner_May.j0 k a1 true a0_0 a0_1 a0_2 a0_3 l0_4 l0_5) else (if a0_1 ≥ 256 then (inner_May.j0 k a1 true a0_0 a0_1 a0_2 a0_3 l0_4 l0_5) else (if a0_2 = 0 then (inner_May.j0 k a1 (a0_2 == a0_0) a0_0 a0_1 a0_2 a0_3 l0_4 l0_5) else ((inner_number.f a0_2).bind fun t354 => (if t354 = true then (inner_May.j0 k a1 (a0_2 == a0_0) a0_0 a0_1 a0_2 a0_3 l0_4 l0_5) else (inner_May.j0 k a1 true a0_0 a0_1 a0_2 a0_3 l0_4 l0_5)))))) else (inner_May.j0 k a1 true a0_0 a0_1 a0_2 a0_3 l0_4 l0_5))) = some r := by rw [if_pos rfl] at H; exact H
  clear H
  have H := H1
  clear H1
  replace H := bM H
  obtain ⟨t353, A70, H⟩ := H
  replace H : (if t353 = true then (if a0_1 < 1 then (inner_May.j0 k a1 true a0_0 a0_1 a0_2 a0_3 l0_4 l0_5) else (if a0_1 ≥ 256 then (inner_May.j0 k a1 true a0_0 a0_1 a0_2 a0_3 l0_4 l0_5) else (if a0_2 = 0 then (inner_May.j0 k a1 (a0_2 == a0_0) a0_0 a0_1 a0_2 a0_3 l0_4 l0_5) else ((inner_number.f a0_2).bind fun t354 => (if t354 = true then (inner_May.j0 k a1 (a0_2 == a0_0) a0_0 a0_1 a0_2 a0_3 l0_4 l0_5) else (inner_May.j0 k a1 true a0_0 a0_1 a0_2 a0_3 l0_4 l0_5)))))) else (inner_May.j0 k a1 true a0_0 a0_1 a0_2 a0_3 l0_4 l0_5)) = some r := H
  have A7 := Aside0.mk A70
  clear A70
  by_cases c8 : t353 = true
  rotate_left
  ·replace c8 := Bool.eq_false_iff.mpr c8
   subst c8
   have H1 : (inner_May.j0 k a1 true a0_0 a0_1 a0_2 a0_3 l0_4 l0_5) = some r := by rw [if_neg (show ¬ (false = true) by decide)] at H; exact H
   clear H
   have H := H1
   clear H1
   have H' := Aside0.mk H
   clear H
   go_wp2_with (first | ((with_reducible refine gate_callee (f := 29) rfl ?_); refine goesL_ (some 10) rfl rfl Try.func29 (by kernel_rfl) rfl #[.int .i64 a1] rfl aO ?_; (with_reducible refine (disk_Size.calls a1 true _ A5.out).mono ?_); rintro e w24 ⟨rfl, hb⟩; refine ⟨_, rfl, ?_⟩; replace BK351 := bb BK351 hb; replace HB := as_ (below_step bA hb); (try clear hb); (try clear hb2); (try clear hk); (try clear hi); obtain ⟨hcz25_0, hcz25_1, hcz25_2, hcz25_3, hcz25_4, hcz25_5⟩ := zc6 BK351; obtain ⟨hfz25_0, hfz25_1, hfz25_2, hfz25_3, hfz25_4, hfz25_5⟩ := zf6 BK351) | (go_at_call 47; (with_reducible refine (inner_number.calls a0_0 false _ A7.out).mono ?_); rintro e w' ⟨rfl, ⟨nd, rfl⟩⟩))
   go_meet
   case rel => exact ⟨_, (true), (by first | rfl | (simp; done) | (simp [*]; done)), H', ⟨by first | omega | exact Nat.le_refl _⟩, ⟨by refine bx ?_; exact BK351.out⟩, ⟨by repeat (first | (with_reducible first | exact HB.out | apply below_alloc | apply pw_below_drewN | apply below_drew1 | refine below_set ?_ GE351.out) | exact HB.out)⟩⟩
  subst c8
  have H1 : (if a0_1 < 1 then (inner_May.j0 k a1 true a0_0 a0_1 a0_2 a0_3 l0_4 l0_5) else (if a0_1 ≥ 256 then (inner_May.j0 k a1 true a0_0 a0_1 a0_2 a0_3 l0_4 l0_5) else (if a0_2 = 0 then (inner_May.j0 k a1 (a0_2 == a0_0) a0_0 a0_1 a0_2 a0_3 l0_4 l0_5) else ((inner_number.f a0_2).bind fun t354 => (if t354 = true then (inner_May.j0 k a1 (a0_2 == a0_0) a0_0 a0_1 a0_2 a0_3 l0_4 l0_5) else (inner_May.j0 k a1 true a0_0 a0_1 a0_2 a0_3 l0_4 l0_5)))))) = some r := by rw [if_pos rfl] at H; exact H
  clear H
  have H := H1
  clear H1
  by_cases c9 : a0_1 < 1
  ·rw [if_pos c9] at H
   have c9b0 : decide (a0_1 < 1) = true := decide_eq_true c9
   clear c9
   (first | rw [c9b0] | (simp only [i64_w, i32_w]; rw [c9b0]) | rw [c9b1] | skip)
   have H' := Aside0.mk H
   clear H
   go_wp2_with (first | ((with_reducible refine gate_callee (f := 29) rfl ?_); refine goesL_ (some 10) rfl rfl Try.func29 (by kernel_rfl) rfl #[.int .i64 a1] rfl aO ?_; (with_reducible refine (disk_Size.calls a1 true _ A5.out).mono ?_); rintro e w10 ⟨rfl, hb⟩; refine ⟨_, rfl, ?_⟩; replace BK351 := bb BK351 hb; replace HB := as_ (below_step bA hb); (try clear hb); (try clear hb2); (try clear hk); (try clear hi); obtain ⟨hcz11_0, hcz11_1, hcz11_2, hcz11_3, hcz11_4, hcz11_5⟩ := zc6 BK351; obtain ⟨hfz11_0, hfz11_1, hfz11_2, hfz11_3, hfz11_4, hfz11_5⟩ := zf6 BK351) | (go_at_call 47; (with_reducible refine (inner_number.calls a0_0 true _ A7.out).mono ?_); rintro e w' ⟨rfl, ⟨nd, rfl⟩⟩))
   go_meet
   case rel => exact ⟨_, (true), (by first | rfl | (simp; done) | (simp [*]; done)), H', ⟨by first | omega | exact Nat.le_refl _⟩, ⟨by refine bx ?_; exact BK351.out⟩, ⟨by repeat (first | (with_reducible first | exact HB.out | apply below_alloc | apply pw_below_drewN | apply below_drew1 | refine below_set ?_ GE351.out) | exact HB.out)⟩⟩
  rw [if_neg c9] at H
  have c9b0 : decide (a0_1 < 1) = false := decide_eq_false c9
  clear c9
  (first | rw [c9b0] | (simp only [i64_w, i32_w]; rw [c9b0]) | rw [c9b1] | skip)
  by_cases c12 : a0_1 ≥ 256
  ·rw [if_pos c12] at H
   have c12b0 : decide (256 ≤ a0_1) = true := decide_eq_true c12
   clear c12
   have H' := Aside0.mk H
   clear H
   go_wp2_with (first | ((with_reducible refine gate_callee (f := 29) rfl ?_); refine goesL_ (some 10) rfl rfl Try.func29 (by kernel_rfl) rfl #[.int .i64 a1] rfl aO ?_; (with_reducible refine (disk_Size.calls a1 true _ A5.out).mono ?_); rintro e w13 ⟨rfl, hb⟩; refine ⟨_, rfl, ?_⟩; replace BK351 := bb BK351 hb; replace HB := as_ (below_step bA hb); (try clear hb); (try clear hb2); (try clear hk); (try clear hi); obtain ⟨hcz14_0, hcz14_1, hcz14_2, hcz14_3, hcz14_4, hcz14_5⟩ := zc6 BK351; obtain ⟨hfz14_0, hfz14_1, hfz14_2, hfz14_3, hfz14_4, hfz14_5⟩ := zf6 BK351) | (go_at_call 47; (with_reducible refine (inner_number.calls a0_0 true _ A7.out).mono ?_); rintro e w' ⟨rfl, ⟨nd, rfl⟩⟩))
   go_meet
   case rel => exact ⟨_, (true), (by first | rfl | (simp; done) | (simp [*]; done)), H', ⟨by first | omega | exact Nat.le_refl _⟩, ⟨by refine bx ?_; exact BK351.out⟩, ⟨by repeat (first | (with_reducible first | exact HB.out | apply below_alloc | apply pw_below_drewN | apply below_drew1 | refine below_set ?_ GE351.out) | exact HB.out)⟩⟩
  rw [if_neg c12] at H
  have c12b0 : decide (256 ≤ a0_1) = false := decide_eq_false c12
  clear c12
  by_cases c15 : a0_2 = 0
  ·rw [if_pos c15] at H
   have c15b0 : (a0_2 == 0) = true := beq_iff_eq.mpr c15
   have c15b1 : (a0_2 != 0) = false := bne_eq_false_iff_eq.mpr c15
   clear c15
   have H' := Aside0.mk H
   clear H
   go_wp2_with (first | ((with_reducible refine gate_callee (f := 29) rfl ?_); refine goesL_ (some 10) rfl rfl Try.func29 (by kernel_rfl) rfl #[.int .i64 a1] rfl aO ?_; (with_reducible refine (disk_Size.calls a1 true _ A5.out).mono ?_); rintro e w16 ⟨rfl, hb⟩; refine ⟨_, rfl, ?_⟩; replace BK351 := bb BK351 hb; replace HB := as_ (below_step bA hb); (try clear hb); (try clear hb2); (try clear hk); (try clear hi); obtain ⟨hcz17_0, hcz17_1, hcz17_2, hcz17_3, hcz17_4, hcz17_5⟩ := zc6 BK351; obtain ⟨hfz17_0, hfz17_1, hfz17_2, hfz17_3, hfz17_4, hfz17_5⟩ := zf6 BK351) | (go_at_call 47; (with_reducible refine (inner_number.calls a0_0 true _ A7.out).mono ?_); rintro e w' ⟨rfl, ⟨nd, rfl⟩⟩))
   go_meet
   case rel => exact ⟨_, ((a0_2 == a0_0)), (by first | rfl | (simp; done) | (simp [*]; done)), H', ⟨by first | omega | exact Nat.le_refl _⟩, ⟨by refine bx ?_; exact BK351.out⟩, ⟨by repeat (first | (with_reducible first | exact HB.out | apply below_alloc | apply pw_below_drewN | apply below_drew1 | refine below_set ?_ GE351.out) | exact HB.out)⟩⟩
  rw [if_neg c15] at H
  have c15b0 : (a0_2 == 0) = false := beq_eq_false_iff_ne.mpr c15
  have c15b1 : (a0_2 != 0) = true := bne_iff_ne.mpr c15
  replace H := bM H
  obtain ⟨t354, A180, H⟩ := H
  replace H : (if t354 = true then (inner_May.j0 k a1 (a0_2 == a0_0) a0_0 a0_1 a0_2 a0_3 l0_4 l0_5) else (inner_May.j0 k a1 true a0_0 a0_1 a0_2 a0_3 l0_4 l0_5)) = some r := H
  have A18 := Aside0.mk A180
  clear A180
  by_cases c19 : t354 = true
  ·subst c19
   have H1 : (inner_May.j0 k a1 (a0_2 == a0_0) a0_0 a0_1 a0_2 a0_3 l0_4 l0_5) = some r := by rw [if_pos rfl] at H; exact H
   clear H
   have H := H1
   clear H1
   have H' := Aside0.mk H
   clear H
   go_wp2_with (first | ((with_reducible refine gate_callee (f := 29) rfl ?_); refine goesL_ (some 10) rfl rfl Try.func29 (by kernel_rfl) rfl #[.int .i64 a1] rfl aO ?_; (with_reducible refine (disk_Size.calls a1 true _ A5.out).mono ?_); rintro e w20 ⟨rfl, hb⟩; refine ⟨_, rfl, ?_⟩; replace BK351 := bb BK351 hb; replace HB := as_ (below_step bA hb); (try clear hb); (try clear hb2); (try clear hk); (try clear hi); obtain ⟨hcz21_0, hcz21_1, hcz21_2, hcz21_3, hcz21_4, hcz21_5⟩ := zc6 BK351; obtain ⟨hfz21_0, hfz21_1, hfz21_2, hfz21_3, hfz21_4, hfz21_5⟩ := zf6 BK351) | (go_at_call 47; (with_reducible refine (inner_number.calls a0_0 true _ A7.out).mono ?_); rintro e w' ⟨rfl, ⟨nd, rfl⟩⟩) | (go_at_call 47; (with_reducible refine (inner_number.calls a0_2 true _ A18.out).mono ?_); rintro e w' ⟨rfl, ⟨nd, rfl⟩⟩))
   go_meet
   case rel => exact ⟨_, ((a0_2 == a0_0)), (by first | rfl | (simp; done) | (simp [*]; done)), H', ⟨by first | omega | exact Nat.le_refl _⟩, ⟨by refine bx ?_; exact BK351.out⟩, ⟨by repeat (first | (with_reducible first | exact HB.out | apply below_alloc | apply pw_below_drewN | apply below_drew1 | refine below_set ?_ GE351.out) | exact HB.out)⟩⟩
  replace c19 := Bool.eq_false_iff.mpr c19
  subst c19
  have H1 : (inner_May.j0 k a1 true a0_0 a0_1 a0_2 a0_3 l0_4 l0_5) = some r := by rw [if_neg (show ¬ (false = true) by decide)] at H; exact H
  clear H
  have H := H1
  clear H1
  have H' := Aside0.mk H
  clear H
  go_wp2_with (first | ((with_reducible refine gate_callee (f := 29) rfl ?_); refine goesL_ (some 10) rfl rfl Try.func29 (by kernel_rfl) rfl #[.int .i64 a1] rfl aO ?_; (with_reducible refine (disk_Size.calls a1 true _ A5.out).mono ?_); rintro e w22 ⟨rfl, hb⟩; refine ⟨_, rfl, ?_⟩; replace BK351 := bb BK351 hb; replace HB := as_ (below_step bA hb); (try clear hb); (try clear hb2); (try clear hk); (try clear hi); obtain ⟨hcz23_0, hcz23_1, hcz23_2, hcz23_3, hcz23_4, hcz23_5⟩ := zc6 BK351; obtain ⟨hfz23_0, hfz23_1, hfz23_2, hfz23_3, hfz23_4, hfz23_5⟩ := zf6 BK351) | (go_at_call 47; (with_reducible refine (inner_number.calls a0_0 true _ A7.out).mono ?_); rintro e w' ⟨rfl, ⟨nd, rfl⟩⟩) | (go_at_call 47; (with_reducible refine (inner_number.calls a0_2 false _ A18.out).mono ?_); rintro e w' ⟨rfl, ⟨nd, rfl⟩⟩))
  go_meet
  case rel => exact ⟨_, (true), (by first | rfl | (simp; done) | (simp [*]; done)), H', ⟨by first | omega | exact Nat.le_refl _⟩, ⟨by refine bx ?_; exact BK351.out⟩, ⟨by repeat (first | (with_reducible first | exact HB.out | apply below_alloc | apply pw_below_drewN | apply below_drew1 | refine below_set ?_ GE351.out) | exact HB.out)⟩⟩
 case rest =>
  clear HC3
  try clear c1
  try clear c2
  try clear p2
  try clear c3
  try clear c6
  try clear c8
  try clear c9
  try clear c9b0
  try clear c9b1
  try clear c12
  try clear c12b0
  try clear c15
  try clear c15b0
  try clear c15b1
  try clear c19
  try clear hcz11_0
  try clear hcz11_1
  try clear hcz11_2
  try clear hcz11_3
  try clear hcz11_4
  try clear hcz11_5
  try clear hcz14_0
  try clear hcz14_1
  try clear hcz14_2
  try clear hcz14_3
  try clear hcz14_4
  try clear hcz14_5
  try clear hcz17_0
  try clear hcz17_1
  try clear hcz17_2
  try clear hcz17_3
  try clear hcz17_4
  try clear hcz17_5
  try clear hcz21_0
  try clear hcz21_1
  try clear hcz21_2
  try clear hcz21_3
  try clear hcz21_4
  try clear hcz21_5
  try clear hcz23_0
  try clear hcz23_1
  try clear hcz23_2
  try clear hcz23_3
  try clear hcz23_4
  try clear hcz23_5
  try clear hcz25_0
  try clear hcz25_1
  try clear hcz25_2
  try clear hcz25_3
  try clear hcz25_4
  try clear hcz25_5
  try clear hfz11_0
  try clear hfz11_1
  try clear hfz11_2
  try clear hfz11_3
  try clear hfz11_4
  try clear hfz11_5
  try clear hfz14_0
  try clear hfz14_1
  try clear hfz14_2
  try clear hfz14_3
  try clear hfz14_4
  try clear hfz14_5
  try clear hfz17_0
  try clear hfz17_1
  try clear hfz17_2
  try clear hfz17_3
  try clear hfz17_4
  try clear hfz17_5
  try clear hfz21_0
  try clear hfz21_1
  try clear hfz21_2
  try clear hfz21_3
  try clear hfz21_4
  try clear hfz21_5
  try clear hfz23_0
  try clear hfz23_1
  try clear hfz23_2
  try clear hfz23_3
  try clear hfz23_4
  try clear hfz23_5
  try clear hfz25_0
  try clear hfz25_1
  try clear hfz25_2
  try clear hfz25_3
  try clear hfz25_4
  try clear hfz25_5
  obtain ⟨kq, x45_2, rfl, HA, HJ2, BK351, HB⟩ := hcut
  cases kq with
  | zero => exact absurd HA.out (by simp [inner_May.j0])
  | succ kj2 =>
   have H := HA.out
   clear HA
   simp only [inner_May.j0] at H
   by_cases c27 : x45_2 = true
   ·subst c27
    have H1 : (some false) = some r := by rw [if_pos rfl] at H; exact H
    clear H
    have H := H1
    clear H1
    obtain rfl := Option.some.inj H
    go_wp2
    go_ret
    exact ⟨eW, by repeat (first | (with_reducible first | exact HB.out | apply below_alloc | apply pw_below_drewN | apply below_drew1 | refine below_set ?_ GE351.out) | exact HB.out)⟩
   replace c27 := Bool.eq_false_iff.mpr c27
   subst c27
   have H1 : (if (l0_4.length : Int) = (wrap64 ((l0_5.length : Int) + 1)) then ((slices_ContainsFunc_int_int.f l0_4 48484848).bind fun t355 => (if t355 = true then (inner_May.j1 kj2 a1 true a0_0 a0_1 a0_2 a0_3 l0_4 l0_5) else (if ((a0_2 == 0) != (a0_3.toList == ([] : List UInt8))) = true then (inner_May.j1 kj2 a1 true a0_0 a0_1 a0_2 a0_3 l0_4 l0_5) else (inner_May.j1 kj2 a1 (decide ((a0_3.size : Int) > (wrap64 (Int.tdiv a1 8)))) a0_0 a0_1 a0_2 a0_3 l0_4 l0_5)))) else (inner_May.j1 kj2 a1 true a0_0 a0_1 a0_2 a0_3 l0_4 l0_5)) = some r := by rw [if_neg (show ¬ (false = true) by decide)] at H; exact H
   clear H
   have H := H1
   clear H1
   have HC28 := Aside0.mk H
   clear H
   go_upto_region 4 with (fail)
   go_cut [76] (fun v76 wc => ∃ (kq : Nat) (x76_27 : Bool), v76 = .bool x76_27 ∧ Aside0 (inner_May.j1 kq a1 x76_27 a0_0 a0_1 a0_2 a0_3 l0_4 l0_5 = some r) ∧ Aside0 (kq ≤ kj2) ∧ Aside0 (wc.heap[gb351]? = some (.cells #[.int .i64 a0_0, .int .i64 a0_1, .int .i64 a0_2, .string a0_3, (.slice A0_4 l0_4.length c0_4), (.slice A0_5 l0_5.length c0_5)] 50 (0, 0))) ∧ Aside0 (Below w.heap.size w wc))
   case first =>
    have H := HC28.out
    clear HC28
    by_cases c29 : (l0_4.length : Int) = (wrap64 ((l0_5.length : Int) + 1))
    rotate_left
    ·rw [if_neg c29] at H
     have c29b0 : ((l0_4.length : Int) == (wrap64 ((l0_5.length : Int) + 1))) = false := beq_eq_false_iff_ne.mpr c29
     have c29b1 : ((l0_4.length : Int) != (wrap64 ((l0_5.length : Int) + 1))) = true := bne_iff_ne.mpr c29
     (first | rw [c29b0] | (simp only [i64_w, i32_w]; rw [c29b0]) | rw [c29b1] | skip)
     have H' := Aside0.mk H
     clear H
     obtain ⟨hcz36_0, hcz36_1, hcz36_2, hcz36_3, hcz36_4, hcz36_5⟩ := zc6 BK351
     obtain ⟨hfz36_0, hfz36_1, hfz36_2, hfz36_3, hfz36_4, hfz36_5⟩ := zf6 BK351
     go_wp2
     go_meet
     case rel => exact ⟨_, (true), (by first | rfl | (simp; done) | (simp [*]; done)), H', ⟨by have := HJ2.out; first | omega | exact Nat.le_refl _⟩, ⟨by refine bx ?_; exact BK351.out⟩, ⟨by repeat (first | (with_reducible first | exact HB.out | apply below_alloc | apply pw_below_drewN | apply below_drew1 | refine below_set ?_ GE351.out) | exact HB.out)⟩⟩
    rw [if_pos c29] at H
    have c29b0 : ((l0_4.length : Int) == (wrap64 ((l0_5.length : Int) + 1))) = true := beq_iff_eq.mpr c29
    have c29b1 : ((l0_4.length : Int) != (wrap64 ((l0_5.length : Int) + 1))) = false := bne_eq_false_iff_eq.mpr c29
    clear c29
    (first | rw [c29b0] | (simp only [i64_w, i32_w]; rw [c29b0]) | rw [c29b1] | skip)
    replace H := bM H
    obtain ⟨t355, A300, H⟩ := H
    replace H : (if t355 = true then (inner_May.j1 kj2 a1 true a0_0 a0_1 a0_2 a0_3 l0_4 l0_5) else (if ((a0_2 == 0) != (a0_3.toList == ([] : List UInt8))) = true then (inner_May.j1 kj2 a1 true a0_0 a0_1 a0_2 a0_3 l0_4 l0_5) else (inner_May.j1 kj2 a1 (decide ((a0_3.size : Int) > (wrap64 (Int.tdiv a1 8)))) a0_0 a0_1 a0_2 a0_3 l0_4 l0_5))) = some r := H
    have A30 := Aside0.mk A300
    clear A300
    by_cases c31 : t355 = true
    ·subst c31
     have H1 : (inner_May.j1 kj2 a1 true a0_0 a0_1 a0_2 a0_3 l0_4 l0_5) = some r := by rw [if_pos rfl] at H; exact H
     clear H
     have H := H1
     clear H1
     have H' := Aside0.mk H
     clear H
     obtain ⟨hcz32_0, hcz32_1, hcz32_2, hcz32_3, hcz32_4, hcz32_5⟩ := zc6 BK351
     obtain ⟨hfz32_0, hfz32_1, hfz32_2, hfz32_3, hfz32_4, hfz32_5⟩ := zf6 BK351
     go_wp2_with (first | (go_at_call 49; (with_reducible refine (slices_ContainsFunc_int_int.calls _ _ l0_4 48484848 true _ ?side1 ?side2 A30.out).mono ?_); (case side1 => repeat (first | exact (Kd.C_below HR0_4.out HB.out) | (with_reducible refine Kd.C_alloc ?_ _) | (with_reducible refine Kd.C_drewN ?_ _) | (with_reducible refine Kd.C_drew ?_))); (case side2 => exact HC0_4.out); rintro e w' ⟨rfl, ⟨nd, rfl⟩⟩))
     go_meet
     case rel => exact ⟨_, (true), (by first | rfl | (simp; done) | (simp [*]; done)), H', ⟨by have := HJ2.out; first | omega | exact Nat.le_refl _⟩, ⟨by refine bx ?_; exact BK351.out⟩, ⟨by repeat (first | (with_reducible first | exact HB.out | apply below_alloc | apply pw_below_drewN | apply below_drew1 | refine below_set ?_ GE351.out) | exact HB.out)⟩⟩
    replace c31 := Bool.eq_false_iff.mpr c31
    subst c31
    have H1 : (if ((a0_2 == 0) != (a0_3.toList == ([] : List UInt8))) = true then (inner_May.j1 kj2 a1 true a0_0 a0_1 a0_2 a0_3 l0_4 l0_5) else (inner_May.j1 kj2 a1 (decide ((a0_3.size : Int) > (wrap64 (Int.tdiv a1 8)))) a0_0 a0_1 a0_2 a0_3 l0_4 l0_5)) = some r := by rw [if_neg (show ¬ (false = true) by decide)] at H; exact H
    clear H
    have H := H1
    clear H1
    by_cases c33 : ((a0_2 == 0) != (a0_3.toList == ([] : List UInt8))) = true
    rotate_left
    ·rw [if_neg c33] at H
     have c33b0 : ((a0_2 == 0) != (a0_3.toList == ([] : List UInt8))) = false := by simpa using c33
     (try (have c33b1 : decide ((a0_2 == 0) = (a0_3.toList == ([] : List UInt8))) = true := by simpa using c33))
     (try (have c33b7 : decide ((a0_2 == 0) = a0_3.toList.isEmpty) = true := by simpa using c33))
     (try (have c33b8 : ((a0_2 == 0) = a0_3.toList.isEmpty) = True := eq_true (by simpa using c33)))
     (try (have c33b2 : ((a0_2 == 0) == (a0_3.toList == ([] : List UInt8))) = true := by simpa using c33))
     clear c33
     have H' := Aside0.mk H
     clear H
     obtain ⟨hcz35_0, hcz35_1, hcz35_2, hcz35_3, hcz35_4, hcz35_5⟩ := zc6 BK351
     obtain ⟨hfz35_0, hfz35_1, hfz35_2, hfz35_3, hfz35_4, hfz35_5⟩ := zf6 BK351
     go_wp2_with (first | (go_at_call 49; (with_reducible refine (slices_ContainsFunc_int_int.calls _ _ l0_4 48484848 false _ ?side1 ?side2 A30.out).mono ?_); (case side1 => repeat (first | exact (Kd.C_below HR0_4.out HB.out) | (with_reducible refine Kd.C_alloc ?_ _) | (with_reducible refine Kd.C_drewN ?_ _) | (with_reducible refine Kd.C_drew ?_))); (case side2 => exact HC0_4.out); rintro e w' ⟨rfl, ⟨nd, rfl⟩⟩))
     go_meet
     case rel => exact ⟨_, (decide ((a0_3.size : Int) > (wrap64 (Int.tdiv a1 8)))), (by first | rfl | (simp; done) | (simp [*]; done)), H', ⟨by have := HJ2.out; first | omega | exact Nat.le_refl _⟩, ⟨by refine bx ?_; exact BK351.out⟩, ⟨by repeat (first | (with_reducible first | exact HB.out | apply below_alloc | apply pw_below_drewN | apply below_drew1 | refine below_set ?_ GE351.out) | exact HB.out)⟩⟩
    rw [if_pos c33] at H
    have c33b0 : ((a0_2 == 0) != (a0_3.toList == ([] : List UInt8))) = true := c33
    (try (have c33b1 : decide ((a0_2 == 0) = (a0_3.toList == ([] : List UInt8))) = false := by simpa using c33))
    (try (have c33b7 : decide ((a0_2 == 0) = a0_3.toList.isEmpty) = false := by simpa using c33))
    (try (have c33b8 : ((a0_2 == 0) = a0_3.toList.isEmpty) = False := eq_false (by simpa using c33)))
    (try (have c33b2 : ((a0_2 == 0) == (a0_3.toList == ([] : List UInt8))) = false := by simpa using c33))
    (try (have c33b3 : ¬ ((a0_2 == 0) = (a0_3.toList == ([] : List UInt8))) := by simpa using c33))
    clear c33
    have H' := Aside0.mk H
    clear H
    obtain ⟨hcz34_0, hcz34_1, hcz34_2, hcz34_3, hcz34_4, hcz34_5⟩ := zc6 BK351
    obtain ⟨hfz34_0, hfz34_1, hfz34_2, hfz34_3, hfz34_4, hfz34_5⟩ := zf6 BK351
    go_wp2_with (first | (go_at_call 49; (with_reducible refine (slices_ContainsFunc_int_int.calls _ _ l0_4 48484848 false _ ?side1 ?side2 A30.out).mono ?_); (case side1 => repeat (first | exact (Kd.C_below HR0_4.out HB.out) | (with_reducible refine Kd.C_alloc ?_ _) | (with_reducible refine Kd.C_drewN ?_ _) | (with_reducible refine Kd.C_drew ?_))); (case side2 => exact HC0_4.out); rintro e w' ⟨rfl, ⟨nd, rfl⟩⟩))
    go_meet
    case rel => exact ⟨_, (true), (by first | rfl | (simp; done) | (simp [*]; done)), H', ⟨by have := HJ2.out; first | omega | exact Nat.le_refl _⟩, ⟨by refine bx ?_; exact BK351.out⟩, ⟨by repeat (first | (with_reducible first | exact HB.out | apply below_alloc | apply pw_below_drewN | apply below_drew1 | refine below_set ?_ GE351.out) | exact HB.out)⟩⟩
   case rest =>
    clear HC28
    try clear c1
    try clear c2
    try clear p2
    try clear c3
    try clear c6
    try clear p6
    try clear c8
    try clear c9
    try clear c9b0
    try clear c9b1
    try clear c12
    try clear c12b0
    try clear c15
    try clear c15b0
    try clear c15b1
    try clear c19
    try clear c27
    try clear c29
    try clear c29b0
    try clear c29b1
    try clear c31
    try clear c33
    try clear c33b0
    try clear c33b1
    try clear c33b2
    try clear hcz11_0
    try clear hcz11_1
    try clear hcz11_2
    try clear hcz11_3
    try clear hcz11_4
    try clear hcz11_5
    try clear hcz14_0
    try clear hcz14_1
    try clear hcz14_2
    try clear hcz14_3
    try clear hcz14_4
    try clear hcz14_5
    try clear hcz17_0
    try clear hcz17_1
    try clear hcz17_2
    try clear hcz17_3
    try clear hcz17_4
    try clear hcz17_5
    try clear hcz21_0
    try clear hcz21_1
    try clear hcz21_2
    try clear hcz21_3
    try clear hcz21_4
    try clear hcz21_5
    try clear hcz23_0
    try clear hcz23_1
    try clear hcz23_2
    try clear hcz23_3
    try clear hcz23_4
    try clear hcz23_5
    try clear hcz25_0
    try clear hcz25_1
    try clear hcz25_2
    try clear hcz25_3
    try clear hcz25_4
    try clear hcz25_5
    try clear hcz32_0
    try clear hcz32_1
    try clear hcz32_2
    try clear hcz32_3
    try clear hcz32_4
    try clear hcz32_5
    try clear hcz34_0
    try clear hcz34_1
    try clear hcz34_2
    try clear hcz34_3
    try clear hcz34_4
    try clear hcz34_5
    try clear hcz35_0
    try clear hcz35_1
    try clear hcz35_2
    try clear hcz35_3
    try clear hcz35_4
    try clear hcz35_5
    try clear hcz36_0
    try clear hcz36_1
    try clear hcz36_2
    try clear hcz36_3
    try clear hcz36_4
    try clear hcz36_5
    try clear hfz11_0
    try clear hfz11_1
    try clear hfz11_2
    try clear hfz11_3
    try clear hfz11_4
    try clear hfz11_5
    try clear hfz14_0
    try clear hfz14_1
    try clear hfz14_2
    try clear hfz14_3
    try clear hfz14_4
    try clear hfz14_5
    try clear hfz17_0
    try clear hfz17_1
    try clear hfz17_2
    try clear hfz17_3
    try clear hfz17_4
    try clear hfz17_5
    try clear hfz21_0
    try clear hfz21_1
    try clear hfz21_2
    try clear hfz21_3
    try clear hfz21_4
    try clear hfz21_5
    try clear hfz23_0
    try clear hfz23_1
    try clear hfz23_2
    try clear hfz23_3
    try clear hfz23_4
    try clear hfz23_5
    try clear hfz25_0
    try clear hfz25_1
    try clear hfz25_2
    try clear hfz25_3
    try clear hfz25_4
    try clear hfz25_5
    try clear hfz32_0
    try clear hfz32_1
    try clear hfz32_2
    try clear hfz32_3
    try clear hfz32_4
    try clear hfz32_5
    try clear hfz34_0
    try clear hfz34_1
    try clear hfz34_2
    try clear hfz34_3
    try clear hfz34_4
    try clear hfz34_5
    try clear hfz35_0
    try clear hfz35_1
    try clear hfz35_2
    try clear hfz35_3
    try clear hfz35_4
    try clear hfz35_5
    try clear hfz36_0
    try clear hfz36_1
    try clear hfz36_2
    try clear hfz36_3
    try clear hfz36_4
    try clear hfz36_5
    try clear p2
    obtain ⟨kq, x76_27, rfl, HA, HJ27, BK351, HB⟩ := hcut
    cases kq with
    | zero => exact absurd HA.out (by simp [inner_May.j1])
    | succ kj27 =>
     have H := HA.out
     clear HA
     simp only [inner_May.j1] at H
     by_cases c37 : x76_27 = true
     ·subst c37
      have H1 : (some false) = some r := by rw [if_pos rfl] at H; exact H
      clear H
      have H := H1
      clear H1
      obtain rfl := Option.some.inj H
      go_wp2
      go_ret
      exact ⟨eW, by repeat (first | (with_reducible first | exact HB.out | apply below_alloc | apply pw_below_drewN | apply below_drew1 | refine below_set ?_ GE351.out) | exact HB.out)⟩
     replace c37 := Bool.eq_false_iff.mpr c37
     subst c37
     have H1 : (inner_May.l0 kj27 a1 (⟨#[]⟩ : ByteArray) l0_5 (l0_5.length : Int) 0 a0_0 a0_1 a0_2 a0_3 l0_4 l0_5) = some r := by rw [if_neg (show ¬ (false = true) by decide)] at H; exact H
     clear H
     have H := H1
     clear H1
     have H' := Aside0.mk H
     clear H
     obtain ⟨hcz38_0, hcz38_1, hcz38_2, hcz38_3, hcz38_4, hcz38_5⟩ := zc6 BK351
     obtain ⟨hfz38_0, hfz38_1, hfz38_2, hfz38_3, hfz38_4, hfz38_5⟩ := zf6 BK351
     go_wp2
     go_loopg [6, 80] kj27 (fun kq v6 v80 w' => ∃ (x6_3 : ByteArray) (x80_3 : Int), v6 = .string x6_3 ∧ v80 = .int .i64 x80_3 ∧ Aside0 (inner_May.l0 kq a1 x6_3 l0_5 (l0_5.length : Int) x80_3 a0_0 a0_1 a0_2 a0_3 l0_4 l0_5 = some r) ∧ Aside0 (kq ≤ kj27) ∧ Aside0 (w'.heap[gb351]? = some (.cells #[.int .i64 a0_0, .int .i64 a0_1, .int .i64 a0_2, .string a0_3, (.slice A0_4 l0_4.length c0_4), (.slice A0_5 l0_5.length c0_5)] 50 (0, 0))) ∧ Aside0 (Below w.heap.size w w'))
     case atStart => exact ⟨((⟨#[]⟩ : ByteArray)), (0), (by first | rfl | (simp; done) | (simp [*]; done)), (by first | rfl | (simp; done) | (simp [*]; done)), H', ⟨Nat.le_refl _⟩, ⟨by refine bx ?_; exact BK351.out⟩, ⟨by repeat (first | (with_reducible first | exact HB.out | apply below_alloc | apply pw_below_drewN | apply below_drew1 | refine below_set ?_ GE351.out) | exact HB.out)⟩⟩
     case round =>
      clear H'
      try clear c1
      try clear c2
      try clear p2
      try clear c3
      try clear c6
      try clear p6
      try clear c8
      try clear c9
      try clear c9b0
      try clear c9b1
      try clear c12
      try clear c12b0
      try clear c15
      try clear c15b0
      try clear c15b1
      try clear c19
      try clear c27
      try clear c29
      try clear c29b0
      try clear c29b1
      try clear c31
      try clear c33
      try clear c33b0
      try clear c33b1
      try clear c33b2
      try clear c37
      try clear hcz11_0
      try clear hcz11_1
      try clear hcz11_2
      try clear hcz11_3
      try clear hcz11_4
      try clear hcz11_5
      try clear hcz14_0
      try clear hcz14_1
      try clear hcz14_2
      try clear hcz14_3
      try clear hcz14_4
      try clear hcz14_5
      try clear hcz17_0
      try clear hcz17_1
      try clear hcz17_2
      try clear hcz17_3
      try clear hcz17_4
      try clear hcz17_5
      try clear hcz21_0
      try clear hcz21_1
      try clear hcz21_2
      try clear hcz21_3
      try clear hcz21_4
      try clear hcz21_5
      try clear hcz23_0
      try clear hcz23_1
      try clear hcz23_2
      try clear hcz23_3
      try clear hcz23_4
      try clear hcz23_5
      try clear hcz25_0
      try clear hcz25_1
      try clear hcz25_2
      try clear hcz25_3
      try clear hcz25_4
      try clear hcz25_5
      try clear hcz32_0
      try clear hcz32_1
      try clear hcz32_2
      try clear hcz32_3
      try clear hcz32_4
      try clear hcz32_5
      try clear hcz34_0
      try clear hcz34_1
      try clear hcz34_2
      try clear hcz34_3
      try clear hcz34_4
      try clear hcz34_5
      try clear hcz35_0
      try clear hcz35_1
      try clear hcz35_2
      try clear hcz35_3
      try clear hcz35_4
      try clear hcz35_5
      try clear hcz36_0
      try clear hcz36_1
      try clear hcz36_2
      try clear hcz36_3
      try clear hcz36_4
      try clear hcz36_5
      try clear hcz38_0
      try clear hcz38_1
      try clear hcz38_2
      try clear hcz38_3
      try clear hcz38_4
      try clear hcz38_5
      try clear hfz11_0
      try clear hfz11_1
      try clear hfz11_2
      try clear hfz11_3
      try clear hfz11_4
      try clear hfz11_5
      try clear hfz14_0
      try clear hfz14_1
      try clear hfz14_2
      try clear hfz14_3
      try clear hfz14_4
      try clear hfz14_5
      try clear hfz17_0
      try clear hfz17_1
      try clear hfz17_2
      try clear hfz17_3
      try clear hfz17_4
      try clear hfz17_5
      try clear hfz21_0
      try clear hfz21_1
      try clear hfz21_2
      try clear hfz21_3
      try clear hfz21_4
      try clear hfz21_5
      try clear hfz23_0
      try clear hfz23_1
      try clear hfz23_2
      try clear hfz23_3
      try clear hfz23_4
      try clear hfz23_5
      try clear hfz25_0
      try clear hfz25_1
      try clear hfz25_2
      try clear hfz25_3
      try clear hfz25_4
      try clear hfz25_5
      try clear hfz32_0
      try clear hfz32_1
      try clear hfz32_2
      try clear hfz32_3
      try clear hfz32_4
      try clear hfz32_5
      try clear hfz34_0
      try clear hfz34_1
      try clear hfz34_2
      try clear hfz34_3
      try clear hfz34_4
      try clear hfz34_5
      try clear hfz35_0
      try clear hfz35_1
      try clear hfz35_2
      try clear hfz35_3
      try clear hfz35_4
      try clear hfz35_5
      try clear hfz36_0
      try clear hfz36_1
      try clear hfz36_2
      try clear hfz36_3
      try clear hfz36_4
      try clear hfz36_5
      try clear hfz38_0
      try clear hfz38_1
      try clear hfz38_2
      try clear hfz38_3
      try clear hfz38_4
      try clear hfz38_5
      try clear p2
      try clear p6
      obtain ⟨x6_3, x80_3, rfl, rfl, HA, HK3, BK351, HB⟩ := hrel
      cases gk with
      | zero => exact absurd HA.out (by simp [inner_May.l0])
      | succ k3 =>
       have H := HA.out
       clear HA
       simp only [inner_May.l0] at H
       by_cases c39 : x80_3 < (l0_5.length : Int)
       rotate_left
       ·rw [if_neg c39] at H
        have c39b0 : decide (x80_3 < (l0_5.length : Int)) = false := decide_eq_false c39
        clear c39
        obtain rfl := Option.some.inj H
        go_wp2
        go_ret
        exact ⟨eW, by repeat (first | (with_reducible first | exact HB.out | apply below_alloc | apply pw_below_drewN | apply below_drew1 | refine below_set ?_ GE351.out) | exact HB.out)⟩
 
       rw [if_pos c39] at H
       have c39b0 : decide (x80_3 < (l0_5.length : Int)) = true := decide_eq_true c39
       clear c39
       by_cases c40 : 0 ≤ x80_3
       rotate_left
       ·rw [if_neg c40] at H
        exact absurd H (by simp)
       rw [if_pos c40] at H
       have c40b0 : decide (0 ≤ x80_3) = true := decide_eq_true c40
       clear c40
       by_cases c41 : x80_3 < (l0_5.length : Int)
       rotate_left
       ·rw [if_neg c41] at H
        exact absurd H (by simp)
       rw [if_pos c41] at H
       have c41b0 : decide (x80_3 < (l0_5.length : Int)) = true := decide_eq_true c41
       clear c41
       by_cases c42 : ((Op.bytesLess x6_3.toList ((rdOf ByteArray.empty l0_5 x80_3).toList)) = true)
       rotate_left
       ·rw [if_neg c42] at H
        have c42b0 : (Op.bytesLess x6_3.toList ((rdOf ByteArray.empty l0_5 x80_3).toList)) = false := by simpa using c42
        clear c42
        obtain rfl := Option.some.inj H
        have p356 : 0 ≤ (x80_3 : Int) := of_decide_eq_true aM
        have q356 : x80_3 < (l0_5.length : Int) := of_decide_eq_true aM
        obtain ⟨ad356, e356, hx356_0⟩ := Kd.at_string HR0_5.out x80_3 p356 q356
        cases e356
        replace hx356_0 := (HB.out.cell (World.block_lt_of_cell? w _ hx356_0)).trans hx356_0
        replace p356 := eq_true p356
        replace q356 := eq_true q356
        go_wp2
        go_ret
        exact ⟨eW, by repeat (first | (with_reducible first | exact HB.out | apply below_alloc | apply pw_below_drewN | apply below_drew1 | refine below_set ?_ GE351.out) | exact HB.out)⟩
       rw [if_pos c42] at H
       have c42b0 : (Op.bytesLess x6_3.toList ((rdOf ByteArray.empty l0_5 x80_3).toList)) = true := c42
       clear c42
       by_cases c43 : ((rdOf ByteArray.empty l0_5 x80_3).size : Int) > (wrap64 (Int.tdiv a1 8))
       ·rw [if_pos c43] at H
        have c43b0 : decide ((wrap64 (Int.tdiv a1 8)) < ((rdOf ByteArray.empty l0_5 x80_3).size : Int)) = true := decide_eq_true c43
        clear c43
        obtain rfl := Option.some.inj H
        have p356 : 0 ≤ (x80_3 : Int) := of_decide_eq_true aM
        have q356 : x80_3 < (l0_5.length : Int) := of_decide_eq_true aM
        obtain ⟨ad356, e356, hx356_0⟩ := Kd.at_string HR0_5.out x80_3 p356 q356
        cases e356
        replace hx356_0 := (HB.out.cell (World.block_lt_of_cell? w _ hx356_0)).trans hx356_0
        replace p356 := eq_true p356
        replace q356 := eq_true q356
        go_wp2
        go_ret
        exact ⟨eW, by repeat (first | (with_reducible first | exact HB.out | apply below_alloc | apply pw_below_drewN | apply below_drew1 | refine below_set ?_ GE351.out) | exact HB.out)⟩
       rw [if_neg c43] at H
       have c43b0 : decide ((wrap64 (Int.tdiv a1 8)) < ((rdOf ByteArray.empty l0_5 x80_3).size : Int)) = false := decide_eq_false c43
       clear c43
       by_cases c44 : a0_2 = 0
       ·rw [if_pos c44] at H
        have c44b0 : (a0_2 == 0) = true := beq_iff_eq.mpr c44
        (try (have c33u : decide (a0_3.toList = ([] : List UInt8)) = true := by have h_ := c33b0; rw [c44b0] at h_; simpa using h_))
        (try (have c33t : (a0_3.toList == ([] : List UInt8)) = true := by have h_ := c33b0; rw [c44b0] at h_; simpa using h_))
        (try (have c33u : decide (a0_3.toList = ([] : List UInt8)) = false := by have h_ := c33b0; rw [c44b0] at h_; simpa using h_))
        (try (have c33t : (a0_3.toList == ([] : List UInt8)) = false := by have h_ := c33b0; rw [c44b0] at h_; simpa using h_))
        (try (have c33u : decide (a0_3.toList = ([] : List UInt8)) = true := by have h_ := c33b0; rw [c44b0] at h_; simpa using h_))
        (try (have c33t : (a0_3.toList == ([] : List UInt8)) = true := by have h_ := c33b0; rw [c44b0] at h_; simpa using h_))
        (try (have c33u : decide (a0_3.toList = ([] : List UInt8)) = false := by have h_ := c33b0; rw [c44b0] at h_; simpa using h_))
        (try (have c33t : (a0_3.toList == ([] : List UInt8)) = false := by have h_ := c33b0; rw [c44b0] at h_; simpa using h_))
        have c44b1 : (a0_2 != 0) = false := bne_eq_false_iff_eq.mpr c44
        clear c44
        have H' := Aside0.mk H
        clear H
        have p356 : 0 ≤ (x80_3 : Int) := of_decide_eq_true aM
        have q356 : x80_3 < (l0_5.length : Int) := of_decide_eq_true aM
        obtain ⟨ad356, e356, hx356_0⟩ := Kd.at_string HR0_5.out x80_3 p356 q356
        cases e356
        replace hx356_0 := (HB.out.cell (World.block_lt_of_cell? w _ hx356_0)).trans hx356_0
        replace p356 := eq_true p356
        replace q356 := eq_true q356
        obtain ⟨hcz45_0, hcz45_1, hcz45_2, hcz45_3, hcz45_4, hcz45_5⟩ := zc6 BK351
        obtain ⟨hfz45_0, hfz45_1, hfz45_2, hfz45_3, hfz45_4, hfz45_5⟩ := zf6 BK351
        go_wp2
        go_roundg k3
        case measure => have := HJ2.out; have := HJ27.out; have := HK3.out; omega
        case rel => exact ⟨(rdOf ByteArray.empty l0_5 x80_3), (wrap64 (x80_3 + 1)), (by first | rfl | (simp; done) | (simp [*]; done)), (by first | rfl | (simp; done) | (simp [*]; done)), H', ⟨by have := HJ2.out; have := HJ27.out; have := HK3.out; omega⟩, ⟨by refine bx ?_; exact BK351.out⟩, ⟨by repeat (first | (with_reducible first | exact HB.out | apply below_alloc | apply pw_below_drewN | apply below_drew1 | refine below_set ?_ GE351.out) | exact HB.out)⟩⟩
       rw [if_neg c44] at H
       have c44b0 : (a0_2 == 0) = false := beq_eq_false_iff_ne.mpr c44
       (try (have c33u : decide (a0_3.toList = ([] : List UInt8)) = true := by have h_ := c33b0; rw [c44b0] at h_; simpa using h_))
       (try (have c33t : (a0_3.toList == ([] : List UInt8)) = true := by have h_ := c33b0; rw [c44b0] at h_; simpa using h_))
       (try (have c33u : decide (a0_3.toList = ([] : List UInt8)) = false := by have h_ := c33b0; rw [c44b0] at h_; simpa using h_))
       (try (have c33t : (a0_3.toList == ([] : List UInt8)) = false := by have h_ := c33b0; rw [c44b0] at h_; simpa using h_))
       (try (have c33u : decide (a0_3.toList = ([] : List UInt8)) = true := by have h_ := c33b0; rw [c44b0] at h_; simpa using h_))
       (try (have c33t : (a0_3.toList == ([] : List UInt8)) = true := by have h_ := c33b0; rw [c44b0] at h_; simpa using h_))
       (try (have c33u : decide (a0_3.toList = ([] : List UInt8)) = false := by have h_ := c33b0; rw [c44b0] at h_; simpa using h_))
       (try (have c33t : (a0_3.toList == ([] : List UInt8)) = false := by have h_ := c33b0; rw [c44b0] at h_; simpa using h_))
       have c44b1 : (a0_2 != 0) = true := bne_iff_ne.mpr c44
       by_cases c46 : ((Op.bytesLess ((rdOf ByteArray.empty l0_5 x80_3).toList) a0_3.toList) = true)
       rotate_left
       ·rw [if_neg c46] at H
        have c46b0 : (Op.bytesLess ((rdOf ByteArray.empty l0_5 x80_3).toList) a0_3.toList) = false := by simpa using c46
        clear c46
        obtain rfl := Option.some.inj H
        have p356 : 0 ≤ (x80_3 : Int) := of_decide_eq_true aM
        have q356 : x80_3 < (l0_5.length : Int) := of_decide_eq_true aM
        obtain ⟨ad356, e356, hx356_0⟩ := Kd.at_string HR0_5.out x80_3 p356 q356
        cases e356
        replace hx356_0 := (HB.out.cell (World.block_lt_of_cell? w _ hx356_0)).trans hx356_0
        replace p356 := eq_true p356
        replace q356 := eq_true q356
        obtain ⟨hcz48_0, hcz48_1, hcz48_2, hcz48_3, hcz48_4, hcz48_5⟩ := zc6 BK351
        obtain ⟨hfz48_0, hfz48_1, hfz48_2, hfz48_3, hfz48_4, hfz48_5⟩ := zf6 BK351
        go_wp2
        go_ret
        exact ⟨eW, by repeat (first | (with_reducible first | exact HB.out | apply below_alloc | apply pw_below_drewN | apply below_drew1 | refine below_set ?_ GE351.out) | exact HB.out)⟩
       rw [if_pos c46] at H
       have c46b0 : (Op.bytesLess ((rdOf ByteArray.empty l0_5 x80_3).toList) a0_3.toList) = true := c46
       clear c46
       have H' := Aside0.mk H
       clear H
       have p356 : 0 ≤ (x80_3 : Int) := of_decide_eq_true aM
       have q356 : x80_3 < (l0_5.length : Int) := of_decide_eq_true aM
       obtain ⟨ad356, e356, hx356_0⟩ := Kd.at_string HR0_5.out x80_3 p356 q356
       cases e356
       replace hx356_0 := (HB.out.cell (World.block_lt_of_cell? w _ hx356_0)).trans hx356_0
       replace p356 := eq_true p356
       replace q356 := eq_true q356
       obtain ⟨hcz47_0, hcz47_1, hcz47_2, hcz47_3, hcz47_4, hcz47_5⟩ := zc6 BK351
       obtain ⟨hfz47_0, hfz47_1, hfz47_2, hfz47_3, hfz47_4, hfz47_5⟩ := zf6 BK351
       go_wp2
       go_roundg k3
       case measure => have := HJ2.out; have := HJ27.out; have := HK3.out; omega
       case rel => exact ⟨(rdOf ByteArray.empty l0_5 x80_3), (wrap64 (x80_3 + 1)), (by first | rfl | (simp; done) | (simp [*]; done)), (by first | rfl | (simp; done) | (simp [*]; done)), H', ⟨by have := HJ2.out; have := HJ27.out; have := HK3.out; omega⟩, ⟨by refine bx ?_; exact BK351.out⟩, ⟨by repeat (first | (with_reducible first | exact HB.out | apply below_alloc | apply pw_below_drewN | apply below_drew1 | refine below_set ?_ GE351.out) | exact HB.out)⟩⟩
/-! ### slot_place: function 54 -/
def slot_place.f (a0 : Int) : Option (ByteArray) := some (strOfNums (([(a0) % 256, (a0 / 256) % 256] : List Int)))
set_option maxHeartbeats 8000000 in
set_option maxRecDepth 100000 in
theorem slot_place.calls (a0 : Int) (r : ByteArray) (w : World) (h : slot_place.f a0 = some r) :
  Calls Try.prog 54 #[.int .i64 a0] w fun e w' => e = .returned (.string r) ∧ Below w.heap.size w w' := by
 have HB := as_ (Below.refl w.heap.size w)
 have H : (some (strOfNums (([(a0) % 256, (a0 / 256) % 256] : List Int)))) = some r := h
 clear h
 obtain ⟨y357, hy357⟩ : ∃ y_ : List Int, y_ = (([(a0) % 256, (a0 / 256) % 256] : List Int)) := ⟨_, rfl⟩
 replace H : (some (strOfNums y357)) = some r := by first | (rw [hy357]; with_reducible exact H) | (have H2_ := (Option.bind_some _ _).symm.trans H; rw [hy357]; with_reducible exact H2_) | (have H2_ := (Option.bind_some _ _).symm.trans H; with_reducible exact H2_) | with_reducible exact H | (rw [hy357]; exact H) | exact H
 have Ny357 := Aside0.mk hy357
 clear hy357
 obtain rfl := Option.some.inj H
 go_enter Try.func54, Try.ntmps54
 go_wp2_with (first | ((with_reducible refine gate_dst (N := 8) rfl ?_); refine Kd.R_lit (Kd.int .u8) _ 5 ?hg (N := 8) ?hd (xs := ([(a0) % 256, (a0 / 256) % 256] : List Int)) (inner := [.int .u8 ((a0) % 256), .int .u8 ((a0 / 256) % 256)]) (ok := fun _ => True) (okp := fun _ => True) ?hr ?hp (fun _ hk => hk) trivial (Below.refl _ _) (Nat.le_refl _) (by simp) ?_; (case hd => rfl); (case hg => rfl); (case hr => first | (go_simp; done) | (go_simp; rfl)); (case hp => exact (Reps.one (show Kd.M (Kd.int .u8) _ _ _ ((a0) % 256) [.int .u8 ((a0) % 256)] from rfl) (Reps.one (show Kd.M (Kd.int .u8) _ _ _ ((a0 / 256) % 256) [.int .u8 ((a0 / 256) % 256)] from rfl) (Reps.none _ _)))); intro v358 w2 ho3 hb hg_ hnew_; clear hg_ hnew_; (first | rw [← Ny357.out] at ho3 | (simp only [Int.reduceToNat] at ho3; rw [← Ny357.out] at ho3)); have HO359 := as_ (Kd.R_lower ho3 (below_size bA)); replace HB := as_ (below_step bA hb); clear hb ho3; have hcv4 := own_string (P := Try.prog) Try.underlying58 Try.underlying5 Try.underlying9 (Kd.own_of_R HO359.out)))
 go_ret
 exact ⟨eW, by repeat (first | (with_reducible first | exact HB.out | apply below_alloc | apply pw_below_drewN | apply below_drew1) | exact HB.out)⟩

/-! ### bits_Mul32: function 84 -/
def bits_Mul32.f (a0 : Int) (a1 : Int) : Option (Int × Int) := some (((IntKind.u64.wrap ((IntKind.u64.wrap (a0)) * (IntKind.u64.wrap (a1)))) / 4294967296) % 4294967296, (IntKind.u64.wrap ((IntKind.u64.wrap (a0)) * (IntKind.u64.wrap (a1)))) % 4294967296)
set_option maxHeartbeats 8000000 in
set_option maxRecDepth 100000 in
theorem bits_Mul32.calls (a0 : Int) (a1 : Int) (r1 : Int) (r2 : Int) (w : World) (h : bits_Mul32.f a0 a1 = some (r1, r2)) :
  Calls Try.prog 84 #[.int .u32 a0, .int .u32 a1] w fun e w' => e = .returned (.tuple #[.int .u32 r1, .int .u32 r2]) ∧ Drawn0 w w' := by
 have H : (some (((IntKind.u64.wrap ((IntKind.u64.wrap (a0)) * (IntKind.u64.wrap (a1)))) / 4294967296) % 4294967296, (IntKind.u64.wrap ((IntKind.u64.wrap (a0)) * (IntKind.u64.wrap (a1)))) % 4294967296)) = some (r1, r2) := h
 clear h
 simp only [Option.some.injEq, Prod.mk.injEq] at H
 obtain ⟨rfl, rfl⟩ := H
 go_enter Try.func84, Try.ntmps84
 go_wp2
 go_ret2
 exact ⟨by first | rfl | (simp; done) | (simp [*]; done), by repeat (first | exact Drawn0.refl _ | apply Drawn0.step)⟩

/-! ### bits_Mul64: function 85 -/
def bits_Mul64.f (a0 : Int) (a1 : Int) : Option (Int × Int) := some (IntKind.u64.wrap ((IntKind.u64.wrap ((IntKind.u64.wrap ((a0 / 4294967296) * (a1 / 4294967296))) + ((IntKind.u64.wrap ((IntKind.u64.wrap ((a0 / 4294967296) * (Go.bits .and .u64 a1 4294967295))) + ((IntKind.u64.wrap ((Go.bits .and .u64 a0 4294967295) * (Go.bits .and .u64 a1 4294967295))) / 4294967296))) / 4294967296))) + ((IntKind.u64.wrap ((Go.bits .and .u64 (IntKind.u64.wrap ((IntKind.u64.wrap ((a0 / 4294967296) * (Go.bits .and .u64 a1 4294967295))) + ((IntKind.u64.wrap ((Go.bits .and .u64 a0 4294967295) * (Go.bits .and .u64 a1 4294967295))) / 4294967296))) 4294967295) + (IntKind.u64.wrap ((Go.bits .and .u64 a0 4294967295) * (a1 / 4294967296))))) / 4294967296)), IntKind.u64.wrap (a0 * a1))
set_option maxHeartbeats 8000000 in
set_option maxRecDepth 100000 in
theorem bits_Mul64.calls (a0 : Int) (a1 : Int) (r1 : Int) (r2 : Int) (w : World) (h : bits_Mul64.f a0 a1 = some (r1, r2)) :
  Calls Try.prog 85 #[.int .u64 a0, .int .u64 a1] w fun e w' => e = .returned (.tuple #[.int .u64 r1, .int .u64 r2]) ∧ Drawn0 w w' := by
 have H : (some (IntKind.u64.wrap ((IntKind.u64.wrap ((IntKind.u64.wrap ((a0 / 4294967296) * (a1 / 4294967296))) + ((IntKind.u64.wrap ((IntKind.u64.wrap ((a0 / 4294967296) * (Go.bits .and .u64 a1 4294967295))) + ((IntKind.u64.wrap ((Go.bits .and .u64 a0 4294967295) * (Go.bits .and .u64 a1 4294967295))) / 4294967296))) / 4294967296))) + ((IntKind.u64.wrap ((Go.bits .and .u64 (IntKind.u64.wrap ((IntKind.u64.wrap ((a0 / 4294967296) * (Go.bits .and .u64 a1 4294967295))) + ((IntKind.u64.wrap ((Go.bits .and .u64 a0 4294967295) * (Go.bits .and .u64 a1 4294967295))) / 4294967296))) 4294967295) + (IntKind.u64.wrap ((Go.bits .and .u64 a0 4294967295) * (a1 / 4294967296))))) / 4294967296)), IntKind.u64.wrap (a0 * a1))) = some (r1, r2) := h
 clear h
 simp only [Option.some.injEq, Prod.mk.injEq] at H
 obtain ⟨rfl, rfl⟩ := H
 go_enter Try.func85, Try.ntmps85
 go_wp2
 go_ret2
 exact ⟨by first | rfl | (simp; done) | (simp [*]; done), by repeat (first | exact Drawn0.refl _ | apply Drawn0.step)⟩

/-! ### bits_Mul: function 69 -/
def bits_Mul.f (a0 : Int) (a1 : Int) : Option (Int × Int) := (bits_Mul64.f a0 a1).bind fun bt360 => (some (bt360.1, bt360.2))
set_option maxHeartbeats 8000000 in
set_option maxRecDepth 100000 in
theorem bits_Mul.calls (a0 : Int) (a1 : Int) (r1 : Int) (r2 : Int) (w : World) (h : bits_Mul.f a0 a1 = some (r1, r2)) :
  Calls Try.prog 69 #[.int .u64 a0, .int .u64 a1] w fun e w' => e = .returned (.tuple #[.int .u64 r1, .int .u64 r2]) ∧ Drawn0 w w' := by
 have H : ((bits_Mul64.f a0 a1).bind fun bt360 => (some (bt360.1, bt360.2))) = some (r1, r2) := h
 clear h
 replace H := bM H
 obtain ⟨⟨t360, t361⟩, A30, H⟩ := H
 replace H : (some (t360, t361)) = some (r1, r2) := H
 have A3 := Aside0.mk A30
 clear A30
 simp only [Option.some.injEq, Prod.mk.injEq] at H
 obtain ⟨rfl, rfl⟩ := H
 go_enter Try.func69, Try.ntmps69
 go_wp2_with (first | ((with_reducible refine gate_callee (f := 85) rfl ?_); refine goesL_ (some 25) rfl rfl Try.func85 (by kernel_rfl) rfl #[.int .u64 a0, .int .u64 a1] rfl aO ?_; (with_reducible refine (bits_Mul64.calls a0 a1 t360 t361 _ A3.out).mono ?_); rintro e w' ⟨rfl, ⟨nd, rfl⟩⟩; refine ⟨_, rfl, ?_⟩))
 go_ret2
 exact ⟨by first | rfl | (simp; done) | (simp [*]; done), by repeat (first | exact Drawn0.refl _ | apply Drawn0.step)⟩

/-! ### stringslite_HasPrefix: function 86 -/
def stringslite_HasPrefix.f (a0 : ByteArray) (a1 : ByteArray) : Option (Bool) := if (a0.size : Int) ≥ (a1.size : Int) then (if 0 ≤ (a1.size : Int) then (if (a1.size : Int) ≤ (a0.size : Int) then (some ((a0.extract 0 a1.size).toList == a1.toList)) else (none)) else (none)) else (some false)
set_option maxHeartbeats 8000000 in
set_option maxRecDepth 100000 in
theorem stringslite_HasPrefix.calls (a0 : ByteArray) (a1 : ByteArray) (r : Bool) (w : World) (h : stringslite_HasPrefix.f a0 a1 = some r) :
  Calls Try.prog 86 #[.string a0, .string a1] w fun e w' => e = .returned (.bool r) ∧ Drawn0 w w' := by
 have H : (if (a0.size : Int) ≥ (a1.size : Int) then (if 0 ≤ (a1.size : Int) then (if (a1.size : Int) ≤ (a0.size : Int) then (some ((a0.extract 0 a1.size).toList == a1.toList)) else (none)) else (none)) else (some false)) = some r := h
 clear h
 by_cases c3 : (a0.size : Int) ≥ (a1.size : Int)
 rotate_left
 ·rw [if_neg c3] at H
  have c3b0 : decide ((a1.size : Int) ≤ (a0.size : Int)) = false := decide_eq_false c3
  have c3b1 : decide (a1.size ≤ a0.size) = false := decide_eq_false (fun h => c3 (Int.ofNat_le.mpr h))
  clear c3
  obtain rfl := Option.some.inj H
  go_enter Try.func86, Try.ntmps86
  go_wp2
  go_ret
  exact ⟨by first | rfl | (simp; done) | (simp [*]; done), by repeat (first | exact Drawn0.refl _ | apply Drawn0.step)⟩
 
 rw [if_pos c3] at H
 have c3b0 : decide ((a1.size : Int) ≤ (a0.size : Int)) = true := decide_eq_true c3
 have c3b1 : decide (a1.size ≤ a0.size) = true := decide_eq_true (Int.ofNat_le.mp c3)
 clear c3
 by_cases c4 : 0 ≤ (a1.size : Int)
 rotate_left
 ·rw [if_neg c4] at H
  exact absurd H (by simp)
 rw [if_pos c4] at H
 have c4b0 := eq_true c4
 have c4b1 : decide (0 ≤ (a1.size : Int)) = true := decide_eq_true c4
 clear c4
 by_cases c5 : (a1.size : Int) ≤ (a0.size : Int)
 rotate_left
 ·rw [if_neg c5] at H
  exact absurd H (by simp)
 rw [if_pos c5] at H
 have c5b0 := eq_true c5
 have c5b1 : decide ((a1.size : Int) ≤ (a0.size : Int)) = true := decide_eq_true c5
 clear c5
 obtain ⟨js6, hjs6⟩ : ∃ j_ : ByteArray, (a0.extract 0 a1.size) = j_ := ⟨_, rfl⟩
 replace H : (some ((js6).toList == a1.toList)) = some r := by first | (rw [hjs6] at H; exact H) | (simp only [hjs6] at H ⊢; exact H)
 obtain rfl := Option.some.inj H
 go_enter Try.func86, Try.ntmps86
 go_wp2
 go_ret
 exact ⟨by first | rfl | (simp; done) | (simp only [← hjs6] <;> (first | rfl | simp)) | (simp [*]; done), by repeat (first | exact Drawn0.refl _ | apply Drawn0.step)⟩
/-! ### strings_HasPrefix: function 70 -/
def strings_HasPrefix.f (a0 : ByteArray) (a1 : ByteArray) : Option (Bool) := (stringslite_HasPrefix.f a0 a1).bind fun t362 => (some t362)
set_option maxHeartbeats 8000000 in
set_option maxRecDepth 100000 in
theorem strings_HasPrefix.calls (a0 : ByteArray) (a1 : ByteArray) (r : Bool) (w : World) (h : strings_HasPrefix.f a0 a1 = some r) :
  Calls Try.prog 70 #[.string a0, .string a1] w fun e w' => e = .returned (.bool r) ∧ Drawn0 w w' := by
 have H : ((stringslite_HasPrefix.f a0 a1).bind fun t362 => (some t362)) = some r := h
 clear h
 replace H := bM H
 obtain ⟨t362, A30, H⟩ := H
 replace H : (some t362) = some r := H
 have A3 := Aside0.mk A30
 clear A30
 obtain rfl := Option.some.inj H
 go_enter Try.func70, Try.ntmps70
 go_wp2_with (first | ((with_reducible refine gate_callee (f := 86) rfl ?_); refine goesL_ (some 7) rfl rfl Try.func86 (by kernel_rfl) rfl #[.string a0, .string a1] rfl aO ?_; (with_reducible refine (stringslite_HasPrefix.calls a0 a1 t362 _ A3.out).mono ?_); rintro e w' ⟨rfl, ⟨nd, rfl⟩⟩; refine ⟨_, rfl, ?_⟩))
 go_ret
 exact ⟨by first | rfl | (simp; done) | (simp [*]; done), by repeat (first | exact Drawn0.refl _ | apply Drawn0.step)⟩

-- NOT PRINTED: function 73 (strings_Builder_Len)

/-! ### strings_Repeat: function 55, by hand -/
def strings_Repeat.f (a0 : ByteArray) (a1 : Int) : Option (ByteArray) := if 0 ≤ a1 then (if a1 ≤ 9223372036854775807 then (if a0.size * a1.toNat ≤ 140737488355328 then (some (⟨(Lib.repeatL a0.data.toList a1.toNat).toArray⟩ : ByteArray)) else (none)) else (none)) else (none)
theorem strings_Repeat.calls (a0 : ByteArray) (a1 : Int) (r : ByteArray) (w : World) (h : strings_Repeat.f a0 a1 = some r) :
  Calls Try.prog 55 #[.string a0, .int .i64 a1] w fun e w' => e = .returned (.string r) ∧ Below w.heap.size w w' := by
 unfold strings_Repeat.f at h
 by_cases h0 : 0 ≤ a1
 rotate_left
 ·rw [if_neg h0] at h
  cases h
 
 
 by_cases h1 : a1 ≤ 9223372036854775807
 rotate_left
 ·rw [if_pos h0, if_neg h1] at h
  cases h
 by_cases h2 : a0.size * a1.toNat ≤ 140737488355328
 rotate_left
 ·rw [if_pos h0, if_pos h1, if_neg h2] at h
  cases h
 rw [if_pos h0, if_pos h1, if_pos h2] at h
 injection h with h
 subst h
 obtain ⟨n, rfl⟩ := Int.eq_ofNat_of_zero_le h0
 rw [Int.toNat_natCast] at h2 ⊢
 exact Try.strings_Repeat a0 n w (by omega) h2
end Go.Proofs.Ytfialmegikegbaa.P
