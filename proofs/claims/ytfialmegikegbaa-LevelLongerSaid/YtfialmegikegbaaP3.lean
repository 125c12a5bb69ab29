/- What is proved here: for functions of the Go text, a Lean function each, and that the call comes to just what it answers. Conditions: as each contract names them. Written by wip/tools/myprint.py, a driver of the print of the kit. -/
import Derived.Test.YtfialmegikegbaaP0
import Derived.Test.YtfialmegikegbaaP1
import Derived.Test.YtfialmegikegbaaP2
import Derived.Test.YtfialmegikegbaaWAbbr
namespace Go.Proofs.Ytfialmegikegbaa.P
open Go.RowKit Go.Proofs.YtfialmegikegbaaW.PrintWords Go.Proofs.YtfialmegikegbaaW.PrintLast Go.Proofs.YtfialmegikegbaaW.PrintMore Go.Proofs.YtfialmegikegbaaW.Abbr
-- PACKED
attribute [local go_sem] max2_int min2_int max_two min_two max_three min_three max_four min_four Go.Proofs.YtfialmegikegbaaLaws.str_leq Go.Proofs.YtfialmegikegbaaLaws.str_gtr Go.Proofs.YtfialmegikegbaaLaws.str_geq Go.Proofs.YtfialmegikegbaaLaws.max2_str Go.Proofs.YtfialmegikegbaaLaws.min2_str   -- for this text's walks alone
set_option linter.unusedVariables false
set_option linter.unusedSimpArgs false

/-! ### withyref11_Size: function 36 -/
def withyref11_Size.f (k : Nat) (a0_0 : Int) (a0_1 : Int) (a0_2 : Int) (a0_3 : ByteArray) (l0_4 : List Int) (l0_5 : List ByteArray) : Option (Int) := (withyref11_Fixed.f k a0_0 a0_1 a0_2 a0_3 l0_4 l0_5).bind fun t207 => ((withyref11_Cells.f k a0_0 a0_1 a0_2 a0_3 l0_4 l0_5).bind fun t208 => ((withyref08_Size.f k t207 t208).bind fun t211 => (some t211)))
theorem withyref11_Size.mono : ∀ a0 a1 a2 a3 a4 a5 k, LeO (withyref11_Size.f k a0 a1 a2 a3 a4 a5) (withyref11_Size.f (k + 1) a0 a1 a2 a3 a4 a5) := by
 intro a0 a1 a2 a3 a4 a5 k
 unfold withyref11_Size.f
 repeat' first
   | (with_reducible exact withyref08_Size.mono _ _ _)
   | (with_reducible exact withyref11_Cells.mono _ _ _ _ _ _ _)
   | (with_reducible exact withyref11_Fixed.mono _ _ _ _ _ _ _)
   | (with_reducible exact LeO.refl _)
   | (with_reducible exact LeO.none _)
   | (with_reducible refine LeO.ite ?_ ?_)
   | (with_reducible refine LeO.bind ?_ (fun _ => ?_))
   | exact withyref08_Size.mono _ _ _
   | exact withyref11_Cells.mono _ _ _ _ _ _ _
   | exact withyref11_Fixed.mono _ _ _ _ _ _ _
   | exact LeO.none _
   | refine LeO.ite ?_ ?_
   | refine LeO.bind ?_ (fun _ => ?_)
set_option maxHeartbeats 8000000 in
set_option maxRecDepth 100000 in
theorem withyref11_Size.calls (k : Nat) (a0_0 : Int) (a0_1 : Int) (a0_2 : Int) (a0_3 : ByteArray) (A0_4 : Option Addr) (c0_4 : Nat) (l0_4 : List Int) (A0_5 : Option Addr) (c0_5 : Nat) (l0_5 : List ByteArray) (r : Int) (w : World) (hr0_4 : Kd.C (Kd.int .i64) w A0_4 l0_4.length l0_4) (hc0_4 : l0_4.length ≤ c0_4) (hr0_5 : Kd.C Kd.string w A0_5 l0_5.length l0_5) (hc0_5 : l0_5.length ≤ c0_5) (h : withyref11_Size.f k a0_0 a0_1 a0_2 a0_3 l0_4 l0_5 = some r) :
  Calls Try.prog 36 #[.agg #[.int .i64 a0_0, .int .i64 a0_1, .int .i64 a0_2, .string a0_3, .slice A0_4 l0_4.length c0_4, .slice A0_5 l0_5.length c0_5]] w fun e w' => e = .returned (.int .i64 r) ∧ Below w.heap.size w w' := by
 have hu55 := Try.underlying55
 have HR0_4 := Aside0.mk hr0_4
 have HC0_4 := Aside0.mk hc0_4
 clear hr0_4 hc0_4
 have HR0_5 := Aside0.mk hr0_5
 have HC0_5 := Aside0.mk hc0_5
 clear hr0_5 hc0_5
 have HB := as_ (Below.refl w.heap.size w)
 have H : ((withyref11_Fixed.f k a0_0 a0_1 a0_2 a0_3 l0_4 l0_5).bind fun t207 => ((withyref11_Cells.f k a0_0 a0_1 a0_2 a0_3 l0_4 l0_5).bind fun t208 => ((withyref08_Size.f k t207 t208).bind fun t211 => (some t211)))) = some r := h
 clear h
 replace H := bM H
 obtain ⟨t207, A20, H⟩ := H
 replace H : ((withyref11_Cells.f k a0_0 a0_1 a0_2 a0_3 l0_4 l0_5).bind fun t208 => ((withyref08_Size.f k t207 t208).bind fun t211 => (some t211))) = some r := H
 have A2 := Aside0.mk A20
 clear A20
 replace H := bM H
 obtain ⟨t208, A30, H⟩ := H
 replace H : ((withyref08_Size.f k t207 t208).bind fun t211 => (some t211)) = some r := H
 have A3 := Aside0.mk A30
 clear A30
 replace H := bM H
 obtain ⟨t211, A40, H⟩ := H
 replace H : (some t211) = some r := H
 have A4 := Aside0.mk A40
 clear A40
 obtain rfl := Option.some.inj H
 go_enter Try.func36, Try.ntmps36
 try go_wp2_with (first | ((with_reducible refine gate_dst (N := 1) rfl ?_); refine box_event (by rfl) (N := 1) (by rfl) (cs := #[.int .i64 a0_0, .int .i64 a0_1, .int .i64 a0_2, .string a0_3, .slice A0_4 l0_4.length c0_4, .slice A0_5 l0_5.length c0_5]) (t := 55) gS ?_; intro gb206 hg w5 hbox hb; have BK206 := as_ (hbox); have GW206 := gw hg bA; have GE206 := gw hg bA; replace HB := as_ (below_step bA hb); clear hb hbox hg))
 replace BK206 := as_ (blk_drew BK206.out)
 replace HB := as_ (below_drew1 HB.out)
 refine start_ (n := 6) (S := fun w' => w'.cell? ⟨gb206, 0, none⟩ = some (.int .i64 a0_0) ∧ w'.cell? ⟨gb206, 1, none⟩ = some (.int .i64 a0_1) ∧ w'.cell? ⟨gb206, 2, none⟩ = some (.int .i64 a0_2) ∧ w'.cell? ⟨gb206, 3, none⟩ = some (.string a0_3) ∧ w'.cell? ⟨gb206, 4, none⟩ = some (.slice A0_4 l0_4.length c0_4) ∧ w'.cell? ⟨gb206, 5, none⟩ = some (.slice A0_5 l0_5.length c0_5)) (ds := []) #[ff, ff, ff, ff, ff, ff] (by kernel_rfl) rfl rfl ⟨(blk_cell BK206.out 0).trans rfl, (blk_cell BK206.out 1).trans rfl, (blk_cell BK206.out 2).trans rfl, (blk_cell BK206.out 3).trans rfl, (blk_cell BK206.out 4).trans rfl, (blk_cell BK206.out 5).trans rfl⟩ (fun hHeld => ?_)
 generalize w5.drew = w6 at BK206 HB hHeld ⊢
 refine take_ (i := 0) (N := some 3) (v := ?_) (a' := ?_) #[tt, ff, ff, ff, ff, ff] rfl rfl (by kernel_rfl) (fun _ _ _ h => h) (Or.inl ⟨by rfl, ?_⟩) hHeld ?_ ?_
 rotate_left
 ·rintro w' ⟨s0, s1, s2, s3, s4, s5⟩
  go_simp
  with_reducible rfl
 rotate_left
 ·exact aP
 refine take_ (i := 2) (N := some 5) (v := ?_) (a' := ?_) #[tt, ff, tt, ff, ff, ff] rfl rfl (by kernel_rfl) (fun _ _ _ h => h) (Or.inl ⟨by rfl, ?_⟩) hHeld ?_ ?_
 rotate_left
 ·rintro w' ⟨s0, s1, s2, s3, s4, s5⟩
  go_simp
  with_reducible rfl
 rotate_left
 ·exact aP
 refine one_ (i := 1) (N := some 4) #[tt, tt, tt, ff, ff, ff] rfl rfl (by kernel_rfl) (by decide) (fun K hK => ?_)
 refine goes_ Try.func44 (by kernel_rfl) rfl #[.agg #[.int .i64 a0_0, .int .i64 a0_1, .int .i64 a0_2, .string a0_3, .slice A0_4 l0_4.length c0_4, .slice A0_5 l0_5.length c0_5]] (by rfl) rfl rfl aO ?_
 with_reducible refine (withyref11_Fixed.calls k a0_0 a0_1 a0_2 a0_3 _ _ l0_4 _ _ l0_5 t207 _ ?side1 ?side2 ?side3 ?side4 A2.out).mono ?_
 (case side1 => repeat (first | exact (Kd.C_below HR0_4.out HB.out) | (with_reducible refine Kd.C_alloc ?_ _) | (with_reducible refine Kd.C_drewN ?_ _) | (with_reducible refine Kd.C_drew ?_)))
 (case side2 => exact HC0_4.out)
 (case side3 => repeat (first | exact (Kd.C_below HR0_5.out HB.out) | (with_reducible refine Kd.C_alloc ?_ _) | (with_reducible refine Kd.C_drewN ?_ _) | (with_reducible refine Kd.C_drew ?_)))
 (case side4 => exact HC0_5.out)
 rintro e w7 ⟨rfl, hb⟩
 refine ⟨_, rfl, ?_⟩
 replace BK206 := bb BK206 hb
 replace HB := as_ (below_step bA hb)
 (try clear hb)
 (try clear hb2)
 (try clear hk)
 (try clear hi)
 refine hK.out _ _ ⟨(blk_cell BK206.out 0).trans rfl, (blk_cell BK206.out 1).trans rfl, (blk_cell BK206.out 2).trans rfl, (blk_cell BK206.out 3).trans rfl, (blk_cell BK206.out 4).trans rfl, (blk_cell BK206.out 5).trans rfl⟩ (fun hHeld => ?_)
 clear hK K
 refine norm_ (a' := ?_) ?_ ?_
 rotate_left
 ·show Act.put _ (some 4) _ = _
  simp only [Act.put, List.setIfInBounds_toArray, List.set_cons_zero, List.set_cons_succ, i64_w, i32_w]
  rfl
 refine one_ (i := 3) (N := some 6) #[tt, tt, tt, tt, ff, ff] rfl rfl (by kernel_rfl) (by decide) (fun K hK => ?_)
 refine goes_ Try.func45 (by kernel_rfl) rfl #[.agg #[.int .i64 a0_0, .int .i64 a0_1, .int .i64 a0_2, .string a0_3, .slice A0_4 l0_4.length c0_4, .slice A0_5 l0_5.length c0_5]] (by rfl) rfl rfl aO ?_
 with_reducible refine (withyref11_Cells.calls k a0_0 a0_1 a0_2 a0_3 _ _ l0_4 _ _ l0_5 t208 _ ?side1 ?side2 ?side3 ?side4 A3.out).mono ?_
 (case side1 => repeat (first | exact (Kd.C_below HR0_4.out HB.out) | (with_reducible refine Kd.C_alloc ?_ _) | (with_reducible refine Kd.C_drewN ?_ _) | (with_reducible refine Kd.C_drew ?_)))
 (case side2 => exact HC0_4.out)
 (case side3 => repeat (first | exact (Kd.C_below HR0_5.out HB.out) | (with_reducible refine Kd.C_alloc ?_ _) | (with_reducible refine Kd.C_drewN ?_ _) | (with_reducible refine Kd.C_drew ?_)))
 (case side4 => exact HC0_5.out)
 rintro e w8 ⟨v209, rfl, ho0, hb⟩
 refine ⟨_, rfl, ?_⟩
 have HO210 := as_ (Kd.R_lower ho0 (below_size bA))
 replace BK206 := bb BK206 hb
 replace HB := as_ (below_step bA hb)
 (try clear hb)
 (try clear hb2)
 (try clear hk)
 (try clear hi)
 (try clear ho0)
 obtain ⟨Ao9, co9, eo9⟩ := Kd.R_slice HO210.out
 (first | subst eo9 | (injection eo9 with f1_ f2_ f3_; have f4_ := f1_.symm; have f5_ := f3_.symm; clear f1_ f2_ f3_; subst f4_; subst f5_))
 refine hK.out _ _ ⟨(blk_cell BK206.out 0).trans rfl, (blk_cell BK206.out 1).trans rfl, (blk_cell BK206.out 2).trans rfl, (blk_cell BK206.out 3).trans rfl, (blk_cell BK206.out 4).trans rfl, (blk_cell BK206.out 5).trans rfl⟩ (fun hHeld => ?_)
 clear hK K
 refine norm_ (a' := ?_) ?_ ?_
 rotate_left
 ·show Act.put _ (some 6) _ = _
  simp only [Act.put, List.setIfInBounds_toArray, List.set_cons_zero, List.set_cons_succ, i64_w, i32_w]
  rfl
 refine one_ (i := 4) (N := some 7) #[tt, tt, tt, tt, tt, ff] rfl rfl (by kernel_rfl) (by decide) (fun K hK => ?_)
 refine goes_ Try.func43 (by kernel_rfl) rfl #[.string t207, .slice Ao9 t208.length co9] (by rfl) rfl rfl aO ?_
 with_reducible refine (withyref08_Size.calls k t207 _ _ t208 t211 _ ?side1 ?side2 A4.out).mono ?_
 (case side1 => repeat (first | exact (Kd.R_reads' HO210.out).2.2 | (with_reducible refine Kd.C_alloc ?_ _) | (with_reducible refine Kd.C_drewN ?_ _) | (with_reducible refine Kd.C_drew ?_)))
 (case side2 => exact (Kd.R_reads' HO210.out).2.1)
 rintro e w' ⟨rfl, ⟨nd, rfl⟩⟩
 refine ⟨_, rfl, ?_⟩
 refine hK.out _ _ ⟨(blk_cell BK206.out 0).trans rfl, (blk_cell BK206.out 1).trans rfl, (blk_cell BK206.out 2).trans rfl, (blk_cell BK206.out 3).trans rfl, (blk_cell BK206.out 4).trans rfl, (blk_cell BK206.out 5).trans rfl⟩ (fun hHeld => ?_)
 clear hK K
 refine norm_ (a' := ?_) ?_ ?_
 rotate_left
 ·show Act.put _ (some 7) _ = _
  simp only [Act.put, List.setIfInBounds_toArray, List.set_cons_zero, List.set_cons_succ, i64_w, i32_w]
  rfl
 refine pure_ (i := 5) (N := some 2) (v := ?_) (a' := ?_) #[tt, tt, tt, tt, tt, tt] rfl rfl (by kernel_rfl) (fun _ _ _ h => h) (Or.inl ⟨by rfl, ?_⟩) ?_ ?_
 rotate_left
 ·intro w'
  go_simp
  with_reducible rfl
 rotate_left
 ·exact aP
 refine done_ (by kernel_rfl) ?_
 try go_wp2
 go_ret
 exact ⟨eW, by repeat (first | (with_reducible first | exact HB.out | apply below_alloc | apply pw_below_drewN | apply below_drew1 | refine below_set ?_ GE206.out) | exact HB.out)⟩

/-! ### withyref17_Room: function 31 -/
def withyref17_Room.l0 : Nat → List ByteArray → Int → Int → Int → Int → Int → Int → Int → ByteArray → List Int → List ByteArray → Option (Bool)
 | 0, _, _, _, _, _, _, _, _, _, _, _ => none
 | k + 1, x0, x1, x2, x3, x10, x220000, x220001, x220002, x220003, x220004, x220005 => if x10 < x2 then (if x220004.length < 17592186044416 then (withyref17_Room.l0 k x0 x1 x2 x3 (wrap64 (x10 + 1)) x220000 x220001 x220002 x220003 (x220004 ++ [1]) x220005) else (none)) else (if (wrap64 (x1 + x2)) ≤ (x0.length : Int) then (if 0 ≤ (wrap64 ((wrap64 (x1 + x2)) - 1)) then (if (wrap64 ((wrap64 (x1 + x2)) - 1)) < (x0.length : Int) then ((withyref11_Size.f k x220000 x220001 x220002 (rdOf ByteArray.empty x0 (wrap64 ((wrap64 (x1 + x2)) - 1))) x220004 x220005).bind fun t224 => (some (decide (t224 ≤ (wrap64 (x3 - 16)))))) else (none)) else (none)) else ((withyref11_Size.f k x220000 x220001 x220002 x220003 x220004 x220005).bind fun t225 => (some (decide (t225 ≤ (wrap64 (x3 - 16)))))))
def withyref17_Room.f (k : Nat) (l0 : List ByteArray) (a1 : Int) (a2 : Int) (a3 : Int) : Option (Bool) := (some (([] : List ByteArray) : List ByteArray)).bind fun y212 => (if 0 ≤ a1 then (if a1 ≤ (wrap64 ((wrap64 (a1 + a2)) - 1)) then (if (wrap64 ((wrap64 (a1 + a2)) - 1)) ≤ (l0.length : Int) then (if y212.length + ((l0.take ((wrap64 ((wrap64 (a1 + a2)) - 1)) : Int).toNat).drop (a1 : Int).toNat).length < 8796093022208 then (withyref17_Room.l0 k l0 a1 a2 a3 0 0 0 0 (⟨#[]⟩ : ByteArray) ([] : List Int) (y212 ++ ((l0.take ((wrap64 ((wrap64 (a1 + a2)) - 1)) : Int).toNat).drop (a1 : Int).toNat))) else (none)) else (none)) else (none)) else (none))
theorem withyref17_Room.mono_l : ∀ k, (∀ y0 y1 y2 y3 y4 y5 y6 y7 y8 y9 y10, LeO (withyref17_Room.l0 k y0 y1 y2 y3 y4 y5 y6 y7 y8 y9 y10) (withyref17_Room.l0 (k + 1) y0 y1 y2 y3 y4 y5 y6 y7 y8 y9 y10))
 | 0 => fun _ _ _ _ _ _ _ _ _ _ _ r h => by simp [withyref17_Room.l0] at h
 | k + 1 => by
  have ih0 := withyref17_Room.mono_l k
  ·intro y0 y1 y2 y3 y4 y5 y6 y7 y8 y9 y10
   unfold withyref17_Room.l0
   repeat' first
   | (with_reducible exact ih0 _ _ _ _ _ _ _ _ _ _ _)
   | (with_reducible exact withyref11_Size.mono _ _ _ _ _ _ _)
   | (with_reducible exact LeO.refl _)
   | (with_reducible exact LeO.none _)
   | (with_reducible refine LeO.ite ?_ ?_)
   | (with_reducible refine LeO.bind ?_ (fun _ => ?_))
   | exact ih0 _ _ _ _ _ _ _ _ _ _ _
   | exact withyref11_Size.mono _ _ _ _ _ _ _
   | exact LeO.none _
   | refine LeO.ite ?_ ?_
   | refine LeO.bind ?_ (fun _ => ?_)
theorem withyref17_Room.mono : ∀ a0 a1 a2 a3 k, LeO (withyref17_Room.f k a0 a1 a2 a3) (withyref17_Room.f (k + 1) a0 a1 a2 a3) := by
 intro a0 a1 a2 a3 k
 have ih0 := withyref17_Room.mono_l k
 unfold withyref17_Room.f
 repeat' first
   | (with_reducible exact ih0 _ _ _ _ _ _ _ _ _ _ _)
   | (with_reducible exact withyref11_Size.mono _ _ _ _ _ _ _)
   | (with_reducible exact LeO.refl _)
   | (with_reducible exact LeO.none _)
   | (with_reducible refine LeO.ite ?_ ?_)
   | (with_reducible refine LeO.bind ?_ (fun _ => ?_))
   | exact ih0 _ _ _ _ _ _ _ _ _ _ _
   | exact withyref11_Size.mono _ _ _ _ _ _ _
   | exact LeO.none _
   | refine LeO.ite ?_ ?_
   | refine LeO.bind ?_ (fun _ => ?_)
set_option maxHeartbeats 8000000 in
set_option maxRecDepth 100000 in
theorem withyref17_Room.calls (k : Nat) (A0 : Option Addr) (c0 : Nat) (l0 : List ByteArray) (a1 : Int) (a2 : Int) (a3 : Int) (r : Bool) (w : World) (hr0 : Kd.C Kd.string w A0 l0.length l0) (hc0 : l0.length ≤ c0) (h : withyref17_Room.f k l0 a1 a2 a3 = some r) :
  Calls Try.prog 31 #[.slice A0 l0.length c0, .int .i64 a1, .int .i64 a2, .int .i64 a3] w fun e w' => e = .returned (.bool r) ∧ Below w.heap.size w w' := by
 have hu55 := Try.underlying55
 have HR0 := Aside0.mk hr0
 have HC0 := Aside0.mk hc0
 clear hr0 hc0
 have HB := as_ (Below.refl w.heap.size w)
 have H : ((some (([] : List ByteArray) : List ByteArray)).bind fun y212 => (if 0 ≤ a1 then (if a1 ≤ (wrap64 ((wrap64 (a1 + a2)) - 1)) then (if (wrap64 ((wrap64 (a1 + a2)) - 1)) ≤ (l0.length : Int) then (if y212.length + ((l0.take ((wrap64 ((wrap64 (a1 + a2)) - 1)) : Int).toNat).drop (a1 : Int).toNat).length < 8796093022208 then (withyref17_Room.l0 k l0 a1 a2 a3 0 0 0 0 (⟨#[]⟩ : ByteArray) ([] : List Int) (y212 ++ ((l0.take ((wrap64 ((wrap64 (a1 + a2)) - 1)) : Int).toNat).drop (a1 : Int).toNat))) else (none)) else (none)) else (none)) else (none))) = some r := h
 clear h
 obtain ⟨y212, hy212⟩ : ∃ y_ : List ByteArray, y_ = (([] : List ByteArray)) := ⟨_, rfl⟩
 replace H : (if 0 ≤ a1 then (if a1 ≤ (wrap64 ((wrap64 (a1 + a2)) - 1)) then (if (wrap64 ((wrap64 (a1 + a2)) - 1)) ≤ (l0.length : Int) then (if y212.length + ((l0.take ((wrap64 ((wrap64 (a1 + a2)) - 1)) : Int).toNat).drop (a1 : Int).toNat).length < 8796093022208 then (withyref17_Room.l0 k l0 a1 a2 a3 0 0 0 0 (⟨#[]⟩ : ByteArray) ([] : List Int) (y212 ++ ((l0.take ((wrap64 ((wrap64 (a1 + a2)) - 1)) : Int).toNat).drop (a1 : Int).toNat))) else (none)) else (none)) else (none)) else (none)) = some r := by first | (rw [hy212]; with_reducible exact H) | (have H2_ := (Option.bind_some _ _).symm.trans H; rw [hy212]; with_reducible exact H2_) | (have H2_ := (Option.bind_some _ _).symm.trans H; with_reducible exact H2_) | with_reducible exact H | (rw [hy212]; exact H) | exact H
 have Ny212 := Aside0.mk hy212
 clear hy212
 by_cases c5 : 0 ≤ a1
 rotate_left
 ·rw [if_neg c5] at H
  exact absurd H (by simp)
 
 rw [if_pos c5] at H
 have c5b0 := eq_true c5
 have c5b1 : decide (0 ≤ a1) = true := decide_eq_true c5
 clear c5
 by_cases c6 : a1 ≤ (wrap64 ((wrap64 (a1 + a2)) - 1))
 rotate_left
 ·rw [if_neg c6] at H
  exact absurd H (by simp)
 rw [if_pos c6] at H
 have c6b0 := eq_true c6
 have c6b1 : decide (a1 ≤ (wrap64 ((wrap64 (a1 + a2)) - 1))) = true := decide_eq_true c6
 by_cases c7 : (wrap64 ((wrap64 (a1 + a2)) - 1)) ≤ (l0.length : Int)
 rotate_left
 ·rw [if_neg c7] at H
  exact absurd H (by simp)
 rw [if_pos c7] at H
 have c7b0 := eq_true c7
 have c7b1 : decide ((wrap64 ((wrap64 (a1 + a2)) - 1)) ≤ (l0.length : Int)) = true := decide_eq_true c7
 by_cases c8 : y212.length + ((l0.take ((wrap64 ((wrap64 (a1 + a2)) - 1)) : Int).toNat).drop (a1 : Int).toNat).length < 8796093022208
 rotate_left
 ·rw [if_neg c8] at H
  exact absurd H (by simp)
 rw [if_pos c8] at H
 have LMc8 := Aside0.mk c8
 clear c8
 obtain ⟨y216, hy216⟩ : ∃ y_ : List ByteArray, y_ = (y212 ++ ((l0.take ((wrap64 ((wrap64 (a1 + a2)) - 1)) : Int).toNat).drop (a1 : Int).toNat)) := ⟨_, rfl⟩
 replace H : (withyref17_Room.l0 k l0 a1 a2 a3 0 0 0 0 (⟨#[]⟩ : ByteArray) ([] : List Int) y216) = some r := by first | (rw [hy216]; with_reducible exact H) | (have H2_ := (Option.bind_some _ _).symm.trans H; rw [hy216]; with_reducible exact H2_) | (have H2_ := (Option.bind_some _ _).symm.trans H; with_reducible exact H2_) | with_reducible exact H | (rw [hy216]; exact H) | exact H
 have Ny216 := Aside0.mk hy216
 clear hy216
 have H' := Aside0.mk H
 clear H
 go_enter Try.func31, Try.ntmps31
 go_wp2_with (first | ((with_reducible refine gate_dst (N := 11) rfl ?_); refine Kd.R_lit Kd.string _ 9 ?hg (N := 11) ?hd (xs := ([] : List ByteArray)) (inner := []) (ok := fun _ => True) (okp := fun _ => True) ?hr ?hp (fun _ hk => hk) trivial (Below.refl _ _) (Nat.le_refl _) (by simp) ?_; (case hd => rfl); (case hg => rfl); (case hr => first | (go_simp; done) | (go_simp; rfl)); (case hp => exact (Reps.none _ _)); intro v213 w9 ho10 hb hg_ hnew_; clear hg_ hnew_; (first | rw [← Ny212.out] at ho10 | (simp only [Int.reduceToNat] at ho10; rw [← Ny212.out] at ho10)); have HO214 := as_ (Kd.R_lower ho10 (below_size bA)); replace HB := as_ (below_step bA hb); clear hb ho10; obtain ⟨i011, hi011, _, hsz11, _⟩ := info_parts info9; obtain ⟨A11, hcut11, hA11, hC11⟩ := print_mid_of (P := Try.prog) Value.string (⟨#[]⟩ : ByteArray) 22 9 .i64 .i64 Try.underlying22 hi011 hsz11 A0 c0 l0 a1 (wrap64 ((wrap64 (a1 + a2)) - 1)) (of_decide_eq_true aM) (by first | omega | exact of_decide_eq_true aM) (of_decide_eq_true aM) HC0.out; have HR215 := as_ (Kd.C_of_reads (h1 := fun _ => rfl) (hA11 _ (Kd.reads_of_C HR0.out))); have HC215 := Aside0.mk hC11; clear hA11 hC11 hi011 hsz11) | ((with_reducible refine gate_builtin (b := .append) (xs := #[.tmp 11, .tmp 18]) rfl ?_); at_builtin; refine Kd.R_append_rows Kd.string (w0 := w) w.heap.size rfl (.tmp 11) (.tmp 18) 22 9 (.string ⟨#[]⟩) 16 rfl Try.underlying22 info9 rfl (by decide) (by omega) v213 y212 ((l0.take ((wrap64 ((wrap64 (a1 + a2)) - 1)) : Int).toNat).drop (a1 : Int).toNat) _ _ _ (fun _ => True) (fun _ => False) rfl rfl ?aO ?aR (fun _ _ h => h) (fun _ h => h.elim) ?aF ?aB ?aS ?aL ?_; (case aR => first | (rw [← show ((l0.take ((wrap64 ((wrap64 (a1 + a2)) - 1)) : Int).toNat).drop (a1 : Int).toNat).length = ((wrap64 ((wrap64 (a1 + a2)) - 1)).toNat - a1.toNat) from (by rw [List.length_drop, List.length_take]; have h_ : ((wrap64 ((wrap64 (a1 + a2)) - 1)) : Int) ≤ (l0.length : Int) := of_decide_eq_true aM; omega)]; repeat (first | exact (Kd.C_below HR215.out HB.out) | (with_reducible refine Kd.C_alloc ?_ _) | (with_reducible refine Kd.C_drewN ?_ _) | (with_reducible refine Kd.C_drew ?_))) | (repeat (first | exact (Kd.C_below HR215.out HB.out) | (with_reducible refine Kd.C_alloc ?_ _) | (with_reducible refine Kd.C_drewN ?_ _) | (with_reducible refine Kd.C_drew ?_)))); (case aB => exact bA); (case aF => exact (fun _ _ => trivial)); (case aO => exact (by (with_reducible repeat (first | apply Kd.R_alloc | apply Kd.R_drewN | apply Kd.R_drew)); exact HO214.out)); (case aS => exact (below_size bA)); (case aL => have := LMc8.out; have hlx_ := (show ((l0.take ((wrap64 ((wrap64 (a1 + a2)) - 1)) : Int).toNat).drop (a1 : Int).toNat).length = ((wrap64 ((wrap64 (a1 + a2)) - 1)).toNat - a1.toNat) from (by rw [List.length_drop, List.length_take]; have h_ : ((wrap64 ((wrap64 (a1 + a2)) - 1)) : Int) ≤ (l0.length : Int) := of_decide_eq_true aM; omega)); omega); intro v217 w12 ho hb hg hat; rw [← Ny216.out] at ho; have HO218 := as_ (ho); replace HB := as_ (hb); clear HO214; clear ho hb hg hat; obtain ⟨Ao13, co13, eo13⟩ := Kd.R_slice HO218.out; subst eo13) | ((with_reducible refine gate_dst (N := 9) rfl ?_); refine box_event ?hg (N := 9) ?hd (cs := #[.int .i64 0, .int .i64 0, .int .i64 0, .string (⟨#[]⟩ : ByteArray), .slice none 0 0, .slice none 0 0]) (t := 55) ?hr ?_; (case hd => rfl); (case hg => rfl); (case hr => first | (go_simp; done) | (go_simp; rfl)); intro gb219 hg w14 hbox hb; have BK219 := as_ (hbox); have GW219 := gw hg bA; have GE219 := gw hg bA; replace HO218 := as_ (Kd.R_below (by (with_reducible repeat (first | apply Kd.R_alloc | apply Kd.R_drewN | apply Kd.R_drew)); exact HO218.out) hb); replace HB := as_ (below_step bA hb); clear hb hbox hg; obtain ⟨hcz15_0, hcz15_1, hcz15_2, hcz15_3, hcz15_4, hcz15_5⟩ := zc6 BK219; obtain ⟨hfz15_0, hfz15_1, hfz15_2, hfz15_3, hfz15_4, hfz15_5⟩ := zf6 BK219))
 go_loopg [10] k (fun kq v10 w' => ∃ (x10_1 : Int) (x220004_1 : List Int) (u220004 : Value), v10 = .int .i64 x10_1 ∧ Aside0 (withyref17_Room.l0 kq l0 a1 a2 a3 x10_1 0 0 0 (⟨#[]⟩ : ByteArray) x220004_1 y216 = some r) ∧ Aside0 (kq ≤ k) ∧ Aside0 (Kd.R (Kd.int .i64) 3 w' w.heap.size (fun _ => True) u220004 x220004_1) ∧ Aside0 (Kd.R Kd.string 9 w' w.heap.size (fun _ => True) (.slice Ao13 y216.length co13) y216) ∧ Aside0 (w'.heap[gb219]? = some (.cells #[.int .i64 0, .int .i64 0, .int .i64 0, .string (⟨#[]⟩ : ByteArray), u220004, (.slice Ao13 y216.length co13)] 55 (0, 0))) ∧ Aside0 (Below w.heap.size w w'))
 case atStart => exact ⟨(0), (([] : List Int)), (.slice none 0 0), (by first | rfl | (simp; done) | (simp [*]; done)), H', ⟨Nat.le_refl _⟩, ⟨by first | exact Kd.R_nil _ _ _ _ _ | exact Kd.N_nil _ _ _ _ _ | exact Kd.V_nil _ _ _ _ _ | exact Kd.Q_nil _ _ _ _ _ | exact Kd.S_nil _ _ _ _ _⟩, ⟨by (with_reducible repeat (first | apply Kd.R_alloc | apply Kd.R_drewN | apply Kd.R_drew)); exact Kd.R_mono (Kd.R_far (p := ⟨gb219, 5, none⟩) (Kd.R_far (p := ⟨gb219, 4, none⟩) (Kd.R_far (p := ⟨gb219, 3, none⟩) (Kd.R_far (p := ⟨gb219, 2, none⟩) (Kd.R_far (p := ⟨gb219, 1, none⟩) (Kd.R_far (p := ⟨gb219, 0, none⟩) (Kd.R_types HO218.out BK219.out (by decide)) (fun _ hk => hk.2) (.int .i64 0)) (fun _ hk => hk.2) (.int .i64 0)) (fun _ hk => hk.2) (.int .i64 0)) (fun _ hk => hk.2) (.string (⟨#[]⟩ : ByteArray))) (fun _ hk => hk.2) (.slice none 0 0)) (fun _ hk => hk.2) (.slice Ao13 y216.length co13)) (fun _ hk => trivial)⟩, ⟨by refine bx ?_; refine blk_put (cs := #[.int .i64 0, .int .i64 0, .int .i64 0, .string (⟨#[]⟩ : ByteArray), .slice none 0 0, .slice none 0 0]) ?_ 5 _ rfl; refine bx ?_; refine blk_put (cs := #[.int .i64 0, .int .i64 0, .int .i64 0, .string (⟨#[]⟩ : ByteArray), .slice none 0 0, .slice none 0 0]) ?_ 4 _ rfl; refine bx ?_; refine blk_put (cs := #[.int .i64 0, .int .i64 0, .int .i64 0, .string (⟨#[]⟩ : ByteArray), .slice none 0 0, .slice none 0 0]) ?_ 3 _ rfl; refine bx ?_; refine blk_put (cs := #[.int .i64 0, .int .i64 0, .int .i64 0, .string (⟨#[]⟩ : ByteArray), .slice none 0 0, .slice none 0 0]) ?_ 2 _ rfl; refine bx ?_; refine blk_put (cs := #[.int .i64 0, .int .i64 0, .int .i64 0, .string (⟨#[]⟩ : ByteArray), .slice none 0 0, .slice none 0 0]) ?_ 1 _ rfl; refine bx ?_; refine blk_put (cs := #[.int .i64 0, .int .i64 0, .int .i64 0, .string (⟨#[]⟩ : ByteArray), .slice none 0 0, .slice none 0 0]) ?_ 0 _ rfl; refine bx ?_; exact BK219.out⟩, ⟨by repeat (first | (with_reducible first | exact HB.out | apply below_alloc | apply pw_below_drewN | apply below_drew1 | refine below_set ?_ GE219.out) | exact HB.out)⟩⟩
 case round =>
  clear H'
  try clear p2
  try clear c3
  try clear c5
  try clear c5b0
  try clear c5b1
  try clear c6
  try clear c6b0
  try clear c6b1
  try clear p6
  try clear c7
  try clear c7b0
  try clear c7b1
  try clear c8
  try clear hcz15_0
  try clear hcz15_1
  try clear hcz15_2
  try clear hcz15_3
  try clear hcz15_4
  try clear hcz15_5
  try clear hfz15_0
  try clear hfz15_1
  try clear hfz15_2
  try clear hfz15_3
  try clear hfz15_4
  try clear hfz15_5
  obtain ⟨x10_1, x220004_1, u220004, rfl, HA, HK1, HO_220004, HO_220005, BK219, HB⟩ := hrel
  cases gk with
  | zero => exact absurd HA.out (by simp [withyref17_Room.l0])
  | succ k1 =>
   have H := HA.out
   clear HA
   simp only [withyref17_Room.l0] at H
   by_cases c16 : x10_1 < a2
   ·rw [if_pos c16] at H
    have c16b0 : decide (x10_1 < a2) = true := decide_eq_true c16
    clear c16
    by_cases c17 : x220004_1.length < 17592186044416
    rotate_left
    ·rw [if_neg c17] at H
     exact absurd H (by simp)
    rw [if_pos c17] at H
    have LMc17 := Aside0.mk c17
    clear c17
    obtain ⟨y220, hy220⟩ : ∃ y_ : List Int, y_ = (x220004_1 ++ [1]) := ⟨_, rfl⟩
    replace H : (withyref17_Room.l0 k1 l0 a1 a2 a3 (wrap64 (x10_1 + 1)) 0 0 0 (⟨#[]⟩ : ByteArray) y220 y216) = some r := by first | (rw [hy220]; with_reducible exact H) | (have H2_ := (Option.bind_some _ _).symm.trans H; rw [hy220]; with_reducible exact H2_) | (have H2_ := (Option.bind_some _ _).symm.trans H; with_reducible exact H2_) | with_reducible exact H | (rw [hy220]; exact H) | exact H
    have Ny220 := Aside0.mk hy220
    clear hy220
    have H' := Aside0.mk H
    clear H
    obtain ⟨hcz18_0, hcz18_1, hcz18_2, hcz18_3, hcz18_4, hcz18_5⟩ := zc6 BK219
    obtain ⟨hfz18_0, hfz18_1, hfz18_2, hfz18_3, hfz18_4, hfz18_5⟩ := zf6 BK219
    go_wp2_with (first | ((with_reducible refine gate_builtin (b := .append) (xs := #[.tmp 27, .tmp 28]) rfl ?_); at_builtin; refine Kd.R_append (Kd.int .i64) (w0 := w) w.heap.size rfl (.tmp 27) (.tmp 28) 27 3 (.int .i64 0) 8 rfl Try.underlying27 info3 rfl (by decide) (by omega) u220004 x220004_1 1 [.int .i64 1] (fun _ => True) (fun _ => False) rfl rfl ?aP (fun _ hk => hk.elim) ?aF ?aO ?aB ?aS ?aL ?_; (case aP => exact rfl); (case aB => exact bA); (case aF => exact (fun _ _ => trivial)); (case aO => exact (by (with_reducible repeat (first | apply Kd.R_alloc | apply Kd.R_drewN | apply Kd.R_drew)); exact HO_220004.out)); (case aS => exact (below_size bA)); (case aL => have := LMc17.out; omega); intro v221 w19 ho hb hg hat; rw [← Ny220.out] at ho; have HO222 := as_ (ho); replace HO_220005 := as_ (Kd.R_over' (by (with_reducible repeat (first | apply Kd.R_alloc | apply Kd.R_drewN | apply Kd.R_drew)); exact HO_220005.out) (Kd.R_typed (by (with_reducible repeat (first | apply Kd.R_alloc | apply Kd.R_drewN | apply Kd.R_drew)); exact HO_220004.out)) (by decide) hg); replace BK219 := as_ (blk_grown (g := gb219) (o := .cells #[.int .i64 0, .int .i64 0, .int .i64 0, .string (⟨#[]⟩ : ByteArray), u220004, .slice Ao13 y216.length co13] 55 (0, 0)) (bk BK219) hg (Kd.R_ne HO_220004.out BK219.out (by decide))); replace HB := as_ (hb); clear HO_220004; clear ho hb hg hat; obtain ⟨Ao20, co20, eo20⟩ := Kd.R_slice HO222.out; subst eo20; obtain ⟨hcz21_0, hcz21_1, hcz21_2, hcz21_3, hcz21_4, hcz21_5⟩ := zc6 BK219; obtain ⟨hfz21_0, hfz21_1, hfz21_2, hfz21_3, hfz21_4, hfz21_5⟩ := zf6 BK219))
    go_roundg k1
    case measure => have := HK1.out; omega
    case rel => exact ⟨(wrap64 (x10_1 + 1)), (y220), (.slice Ao20 y220.length co20), (by first | rfl | (simp; done) | (simp [*]; done)), H', ⟨by have := HK1.out; omega⟩, ⟨by (with_reducible repeat (first | apply Kd.R_alloc | apply Kd.R_drewN | apply Kd.R_drew)); exact Kd.R_mono (Kd.R_far (p := ⟨gb219, 4, none⟩) (Kd.R_types HO222.out BK219.out (by decide)) (fun _ hk => hk.2) (.slice Ao20 y220.length co20)) (fun _ hk => trivial)⟩, ⟨by (with_reducible repeat (first | apply Kd.R_alloc | apply Kd.R_drewN | apply Kd.R_drew)); exact Kd.R_mono (Kd.R_far (p := ⟨gb219, 4, none⟩) (Kd.R_types HO_220005.out BK219.out (by decide)) (fun _ hk => hk.2) (.slice Ao20 y220.length co20)) (fun _ hk => trivial)⟩, ⟨by refine bx ?_; refine blk_put (cs := #[.int .i64 0, .int .i64 0, .int .i64 0, .string (⟨#[]⟩ : ByteArray), u220004, .slice Ao13 y216.length co13]) ?_ 4 _ rfl; refine bx ?_; exact BK219.out⟩, ⟨by repeat (first | (with_reducible first | exact HB.out | apply below_alloc | apply pw_below_drewN | apply below_drew1 | refine below_set ?_ GE219.out) | exact HB.out)⟩⟩
   rw [if_neg c16] at H
   have c16b0 : decide (x10_1 < a2) = false := decide_eq_false c16
   clear c16
   by_cases c22 : (wrap64 (a1 + a2)) ≤ (l0.length : Int)
   rotate_left
   ·rw [if_neg c22] at H
    have c22b0 : decide ((wrap64 (a1 + a2)) ≤ (l0.length : Int)) = false := decide_eq_false c22
    clear c22
    replace H := bM H
    obtain ⟨t225, A300, H⟩ := H
    replace H : (some (decide (t225 ≤ (wrap64 (a3 - 16))))) = some r := H
    have A30 := Aside0.mk A300
    clear A300
    obtain rfl := Option.some.inj H
    obtain ⟨hcz31_0, hcz31_1, hcz31_2, hcz31_3, hcz31_4, hcz31_5⟩ := zc6 BK219
    obtain ⟨hfz31_0, hfz31_1, hfz31_2, hfz31_3, hfz31_4, hfz31_5⟩ := zf6 BK219
    obtain ⟨Ao32, co32, eo32⟩ := Kd.R_slice HO_220004.out
    subst eo32
    go_wp2_with (first | ((with_reducible refine gate_callee (f := 36) rfl ?_); refine goesL_ (some 46) rfl rfl Try.func36 (by kernel_rfl) rfl #[.agg #[.int .i64 0, .int .i64 0, .int .i64 0, .string (⟨#[]⟩ : ByteArray), .slice Ao32 x220004_1.length co32, .slice Ao13 y216.length co13]] rfl aO ?_; (with_reducible refine (withyref11_Size.calls k1 0 0 0 (⟨#[]⟩ : ByteArray) _ _ x220004_1 _ _ y216 t225 _ ?side1 ?side2 ?side3 ?side4 A30.out).mono ?_); (case side1 => repeat (first | exact (Kd.R_reads' HO_220004.out).2.2 | (with_reducible refine Kd.C_alloc ?_ _) | (with_reducible refine Kd.C_drewN ?_ _) | (with_reducible refine Kd.C_drew ?_))); (case side2 => exact (Kd.R_reads' HO_220004.out).2.1); (case side3 => repeat (first | exact (Kd.R_reads' HO_220005.out).2.2 | (with_reducible refine Kd.C_alloc ?_ _) | (with_reducible refine Kd.C_drewN ?_ _) | (with_reducible refine Kd.C_drew ?_))); (case side4 => exact (Kd.R_reads' HO_220005.out).2.1); rintro e w33 ⟨rfl, hb⟩; refine ⟨_, rfl, ?_⟩; replace HO_220004 := as_ (Kd.R_below (by (with_reducible repeat (first | apply Kd.R_alloc | apply Kd.R_drewN | apply Kd.R_drew)); exact HO_220004.out) hb); replace HO_220005 := as_ (Kd.R_below (by (with_reducible repeat (first | apply Kd.R_alloc | apply Kd.R_drewN | apply Kd.R_drew)); exact HO_220005.out) hb); replace BK219 := as_ (blk_below (g := gb219) (o := .cells #[.int .i64 0, .int .i64 0, .int .i64 0, .string (⟨#[]⟩ : ByteArray), .slice Ao32 x220004_1.length co32, .slice Ao13 y216.length co13] 55 (0, 0)) (bk BK219) hb); replace HB := as_ (below_step bA hb); (try clear hb); (try clear hb2); (try clear hk); (try clear hi)))
    go_ret
    exact ⟨eW, by repeat (first | (with_reducible first | exact HB.out | apply below_alloc | apply pw_below_drewN | apply below_drew1 | refine below_set ?_ GE219.out) | exact HB.out)⟩
   rw [if_pos c22] at H
   have c22b0 : decide ((wrap64 (a1 + a2)) ≤ (l0.length : Int)) = true := decide_eq_true c22
   clear c22
   obtain ⟨ji23, hji23⟩ : ∃ j_ : Int, (wrap64 ((wrap64 (a1 + a2)) - 1)) = j_ := ⟨_, rfl⟩
   replace H : (if 0 ≤ (ji23) then (if (ji23) < (l0.length : Int) then ((withyref11_Size.f k1 0 0 0 (rdOf ByteArray.empty l0 (ji23)) x220004_1 y216).bind fun t224 => (some (decide (t224 ≤ (wrap64 (a3 - 16)))))) else (none)) else (none)) = some r := by first | (rw [hji23] at H; exact H) | (simp only [hji23] at H ⊢; exact H)
   (try rw [hji23] at c6b0)
   (try rw [hji23] at c6b1)
   (try rw [hji23] at c6)
   (try rw [hji23] at c7b0)
   (try rw [hji23] at c7b1)
   (try rw [hji23] at c7)
   have hji23w : (IntKind.i64.wrap ((wrap64 (a1 + a2)) - 1)) = ji23 := (i64_w _).trans hji23
   by_cases c24 : 0 ≤ (ji23)
   rotate_left
   ·rw [if_neg c24] at H
    exact absurd H (by simp)
   rw [if_pos c24] at H
   have c24b0 : decide (0 ≤ (ji23)) = true := decide_eq_true c24
   clear c24
   by_cases c25 : (ji23) < (l0.length : Int)
   rotate_left
   ·rw [if_neg c25] at H
    exact absurd H (by simp)
   rw [if_pos c25] at H
   have c25b0 : decide ((ji23) < (l0.length : Int)) = true := decide_eq_true c25
   clear c25
   replace H := bM H
   obtain ⟨t224, A260, H⟩ := H
   replace H : (some (decide (t224 ≤ (wrap64 (a3 - 16))))) = some r := H
   have A26 := Aside0.mk A260
   clear A260
   obtain rfl := Option.some.inj H
   have p223 : 0 ≤ ((ji23) : Int) := of_decide_eq_true aM
   have q223 : (ji23) < (l0.length : Int) := of_decide_eq_true aM
   obtain ⟨ad223, e223, hx223_0⟩ := Kd.at_string HR0.out (ji23) p223 q223
   cases e223
   replace hx223_0 := (HB.out.cell (World.block_lt_of_cell? w _ hx223_0)).trans hx223_0
   replace p223 := eq_true p223
   replace q223 := eq_true q223
   obtain ⟨hcz27_0, hcz27_1, hcz27_2, hcz27_3, hcz27_4, hcz27_5⟩ := zc6 BK219
   obtain ⟨hfz27_0, hfz27_1, hfz27_2, hfz27_3, hfz27_4, hfz27_5⟩ := zf6 BK219
   obtain ⟨Ao28, co28, eo28⟩ := Kd.R_slice HO_220004.out
   subst eo28
   go_wp2_with (first | ((with_reducible refine gate_callee (f := 36) rfl ?_); refine goesL_ (some 46) rfl rfl Try.func36 (by kernel_rfl) rfl #[.agg #[.int .i64 0, .int .i64 0, .int .i64 0, .string (rdOf ByteArray.empty l0 (ji23)), .slice Ao28 x220004_1.length co28, .slice Ao13 y216.length co13]] rfl (by (try simp only [List.map_toArray, List.map_cons, List.map_nil]); first | done | (simp only [hji23]; rfl) | rfl | (simp only [List.length_drop, List.length_take]; rfl)) ?_; (with_reducible refine (withyref11_Size.calls k1 0 0 0 (rdOf ByteArray.empty l0 (ji23)) _ _ x220004_1 _ _ y216 t224 _ ?side1 ?side2 ?side3 ?side4 A26.out).mono ?_); (case side1 => refine (Kd.R_reads' (e := 3) (base := w.heap.size) (ok := fun k_ => True) (n := x220004_1.length) (c := co28) ?_).2.2; exact (by (with_reducible repeat (first | apply Kd.R_alloc | apply Kd.R_drewN | apply Kd.R_drew)); exact (Kd.R_mono (Kd.R_far (p := ⟨gb219, 3, none⟩) (Kd.R_types HO_220004.out BK219.out (by decide)) (fun _ hk => hk.2) (.string (rdOf ByteArray.empty l0 (ji23)))) (fun _ h_ => h_.1)))); (case side2 => exact (Kd.R_reads' HO_220004.out).2.1); (case side3 => refine (Kd.R_reads' (e := 9) (base := w.heap.size) (ok := fun k_ => True) (n := y216.length) (c := co13) ?_).2.2; exact (by (with_reducible repeat (first | apply Kd.R_alloc | apply Kd.R_drewN | apply Kd.R_drew)); exact (Kd.R_mono (Kd.R_far (p := ⟨gb219, 3, none⟩) (Kd.R_types HO_220005.out BK219.out (by decide)) (fun _ hk => hk.2) (.string (rdOf ByteArray.empty l0 (ji23)))) (fun _ h_ => h_.1)))); (case side4 => exact (Kd.R_reads' HO_220005.out).2.1); rintro e w29 ⟨rfl, hb⟩; refine ⟨_, rfl, ?_⟩; replace HO_220004 := as_ (Kd.R_below (by (with_reducible repeat (first | apply Kd.R_alloc | apply Kd.R_drewN | apply Kd.R_drew)); exact (Kd.R_mono (Kd.R_far (p := ⟨gb219, 3, none⟩) (Kd.R_types HO_220004.out BK219.out (by decide)) (fun _ hk => hk.2) (.string (rdOf ByteArray.empty l0 (ji23)))) (fun _ h_ => h_.1))) hb); replace HO_220005 := as_ (Kd.R_below (by (with_reducible repeat (first | apply Kd.R_alloc | apply Kd.R_drewN | apply Kd.R_drew)); exact (Kd.R_mono (Kd.R_far (p := ⟨gb219, 3, none⟩) (Kd.R_types HO_220005.out BK219.out (by decide)) (fun _ hk => hk.2) (.string (rdOf ByteArray.empty l0 (ji23)))) (fun _ h_ => h_.1))) hb); replace BK219 := as_ (blk_below (g := gb219) (o := .cells #[.int .i64 0, .int .i64 0, .int .i64 0, .string (rdOf ByteArray.empty l0 (ji23)), .slice Ao28 x220004_1.length co28, .slice Ao13 y216.length co13] 55 (0, 0)) (by refine bx ?_; refine blk_put (cs := #[.int .i64 0, .int .i64 0, .int .i64 0, .string (⟨#[]⟩ : ByteArray), .slice Ao28 x220004_1.length co28, .slice Ao13 y216.length co13]) ?_ 3 _ rfl; refine bx ?_; exact BK219.out) hb); replace HB := as_ (below_step bA hb); (try clear hb); (try clear hb2); (try clear hk); (try clear hi)))
   go_ret
   exact ⟨by first | rfl | (simp [errW_none, errW_some] <;> rfl) | (simp only [← hji23]; first | rfl | (simp [errW_none, errW_some] <;> rfl)) | (simp [*, errW_none, errW_some] <;> rfl), by repeat (first | (with_reducible first | exact HB.out | apply below_alloc | apply pw_below_drewN | apply below_drew1 | refine below_set ?_ GE219.out) | exact HB.out)⟩
/-! ### withyref17_Group: function 14 -/
mutual
def withyref17_Group.l0 : Nat → List ByteArray → Int → List Int → Int → Option (List Int)
 | 0, _, _, _, _ => none
 | k + 1, x0, x1, x5, x6 => if x6 ≤ (x0.length : Int) then (withyref17_Group.l1 k x0 x1 x5 x6 1) else (some x5)
def withyref17_Group.l1 : Nat → List ByteArray → Int → List Int → Int → Int → Option (List Int)
 | 0, _, _, _, _, _ => none
 | k + 1, x0, x1, x5, x6, x7 => if (wrap64 (x6 + x7)) ≤ (x0.length : Int) then ((withyref17_Room.f k x0 x6 (wrap64 (x7 + 1)) x1).bind fun t229 => (if t229 = true then (withyref17_Group.l1 k x0 x1 x5 x6 (wrap64 (x7 + 1))) else (if x5.length < 17592186044416 then (withyref17_Group.l0 k x0 x1 (x5 ++ [x7]) (wrap64 (x6 + x7))) else (none)))) else (if x5.length < 17592186044416 then (withyref17_Group.l0 k x0 x1 (x5 ++ [x7]) (wrap64 (x6 + x7))) else (none))
end
def withyref17_Group.f (k : Nat) (l0 : List ByteArray) (a1 : Int) : Option (List Int) := withyref17_Group.l0 k l0 a1 (([] : List Int)) 0
theorem withyref17_Group.mono_l : ∀ k, (∀ y0 y1 y2 y3, LeO (withyref17_Group.l0 k y0 y1 y2 y3) (withyref17_Group.l0 (k + 1) y0 y1 y2 y3)) ∧ (∀ y0 y1 y2 y3 y4, LeO (withyref17_Group.l1 k y0 y1 y2 y3 y4) (withyref17_Group.l1 (k + 1) y0 y1 y2 y3 y4))
 | 0 => ⟨fun _ _ _ _ r h => by simp [withyref17_Group.l0] at h, fun _ _ _ _ _ r h => by simp [withyref17_Group.l1] at h⟩
 | k + 1 => by
  obtain ⟨ih0, ih1⟩ := withyref17_Group.mono_l k
  refine ⟨?_, ?_⟩
  ·intro y0 y1 y2 y3
   unfold withyref17_Group.l0
   repeat' first
   | (with_reducible exact ih0 _ _ _ _)
   | (with_reducible exact ih1 _ _ _ _ _)
   | (with_reducible exact withyref17_Room.mono _ _ _ _ _)
   | (with_reducible exact LeO.refl _)
   | (with_reducible exact LeO.none _)
   | (with_reducible refine LeO.ite ?_ ?_)
   | (with_reducible refine LeO.bind ?_ (fun _ => ?_))
   | exact ih0 _ _ _ _
   | exact ih1 _ _ _ _ _
   | exact withyref17_Room.mono _ _ _ _ _
   | exact LeO.none _
   | refine LeO.ite ?_ ?_
   | refine LeO.bind ?_ (fun _ => ?_)
  ·intro y0 y1 y2 y3 y4
   unfold withyref17_Group.l1
   repeat' first
   | (with_reducible exact ih0 _ _ _ _)
   | (with_reducible exact ih1 _ _ _ _ _)
   | (with_reducible exact withyref17_Room.mono _ _ _ _ _)
   | (with_reducible exact LeO.refl _)
   | (with_reducible exact LeO.none _)
   | (with_reducible refine LeO.ite ?_ ?_)
   | (with_reducible refine LeO.bind ?_ (fun _ => ?_))
   | exact ih0 _ _ _ _
   | exact ih1 _ _ _ _ _
   | exact withyref17_Room.mono _ _ _ _ _
   | exact LeO.none _
   | refine LeO.ite ?_ ?_
   | refine LeO.bind ?_ (fun _ => ?_)
theorem withyref17_Group.mono : ∀ a0 a1 k, LeO (withyref17_Group.f k a0 a1) (withyref17_Group.f (k + 1) a0 a1) := by
 intro a0 a1 k
 obtain ⟨ih0, ih1⟩ := withyref17_Group.mono_l k
 unfold withyref17_Group.f
 repeat' first
   | (with_reducible exact ih0 _ _ _ _)
   | (with_reducible exact ih1 _ _ _ _ _)
   | (with_reducible exact withyref17_Room.mono _ _ _ _ _)
   | (with_reducible exact LeO.refl _)
   | (with_reducible exact LeO.none _)
   | (with_reducible refine LeO.ite ?_ ?_)
   | (with_reducible refine LeO.bind ?_ (fun _ => ?_))
   | exact ih0 _ _ _ _
   | exact ih1 _ _ _ _ _
   | exact withyref17_Room.mono _ _ _ _ _
   | exact LeO.none _
   | refine LeO.ite ?_ ?_
   | refine LeO.bind ?_ (fun _ => ?_)
set_option maxHeartbeats 8000000 in
set_option maxRecDepth 100000 in
theorem withyref17_Group.calls (k : Nat) (A0 : Option Addr) (c0 : Nat) (l0 : List ByteArray) (a1 : Int) (r : List Int) (w : World) (hr0 : Kd.C Kd.string w A0 l0.length l0) (hc0 : l0.length ≤ c0) (h : withyref17_Group.f k l0 a1 = some r) :
  Calls Try.prog 14 #[.slice A0 l0.length c0, .int .i64 a1] w fun e w' => ∃ v0_ : Value, e = .returned (v0_) ∧ Kd.R (Kd.int .i64) 3 w' w.heap.size (fun _ => True) v0_ r ∧ Below w.heap.size w w' := by
 have HR0 := Aside0.mk hr0
 have HC0 := Aside0.mk hc0
 clear hr0 hc0
 have HB := as_ (Below.refl w.heap.size w)
 have H : (withyref17_Group.l0 k l0 a1 (([] : List Int)) 0) = some r := h
 clear h
 obtain ⟨y226, hy226⟩ : ∃ y_ : List Int, y_ = (([] : List Int)) := ⟨_, rfl⟩
 replace H : (withyref17_Group.l0 k l0 a1 y226 0) = some r := by first | (rw [hy226]; with_reducible exact H) | (have H2_ := (Option.bind_some _ _).symm.trans H; rw [hy226]; with_reducible exact H2_) | (have H2_ := (Option.bind_some _ _).symm.trans H; with_reducible exact H2_) | with_reducible exact H | (rw [hy226]; exact H) | exact H
 have Ny226 := Aside0.mk hy226
 clear hy226
 have H' := Aside0.mk H
 clear H
 go_enter Try.func14, Try.ntmps14
 go_wp2_with (first | ((with_reducible refine gate_dst (N := 8) rfl ?_); refine Kd.R_lit (Kd.int .i64) _ 3 ?hg (N := 8) ?hd (xs := ([] : List Int)) (inner := []) (ok := fun _ => True) (okp := fun _ => True) ?hr ?hp (fun _ hk => hk) trivial (Below.refl _ _) (Nat.le_refl _) (by simp) ?_; (case hd => rfl); (case hg => rfl); (case hr => first | (go_simp; done) | (go_simp; rfl)); (case hp => exact (Reps.none _ _)); intro v227 w3 ho4 hb hg_ hnew_; clear hg_ hnew_; (first | rw [← Ny226.out] at ho4 | (simp only [Int.reduceToNat] at ho4; rw [← Ny226.out] at ho4)); have HO228 := as_ (Kd.R_lower ho4 (below_size bA)); replace HB := as_ (below_step bA hb); clear hb ho4))
 go_loopg [5, 6] k (fun kq v5 v6 w' => ∃ (x5_1 : List Int) (x6_1 : Int), v6 = .int .i64 x6_1 ∧ Aside0 (withyref17_Group.l0 kq l0 a1 x5_1 x6_1 = some r) ∧ Aside0 (kq ≤ k) ∧ Aside0 (Kd.R (Kd.int .i64) 3 w' w.heap.size (fun _ => True) v5 x5_1) ∧ Aside0 (Below w.heap.size w w'))
 case atStart => exact ⟨(y226), (0), (by first | rfl | (simp; done) | (simp [*]; done)), H', ⟨Nat.le_refl _⟩, ⟨by (with_reducible repeat (first | apply Kd.R_alloc | apply Kd.R_drewN | apply Kd.R_drew)); exact HO228.out⟩, ⟨by repeat (first | (with_reducible first | exact HB.out | apply below_alloc | apply pw_below_drewN | apply below_drew1) | exact HB.out)⟩⟩
 case round =>
  clear H'
  try clear c1
  try clear p2
  obtain ⟨x5_1, x6_1, rfl, HA, HK1, HO_5, HB⟩ := hrel
  cases gk with
  | zero => exact absurd HA.out (by simp [withyref17_Group.l0])
  | succ k1 =>
   have H := HA.out
   clear HA
   simp only [withyref17_Group.l0] at H
   by_cases c5 : x6_1 ≤ (l0.length : Int)
   rotate_left
   ·rw [if_neg c5] at H
    have c5b0 : decide (x6_1 ≤ (l0.length : Int)) = false := decide_eq_false c5
    clear c5
    obtain rfl := Option.some.inj H
    go_wp2
    go_ret
    exact ⟨_, eW, by (with_reducible repeat (first | apply Kd.R_alloc | apply Kd.R_drewN | apply Kd.R_drew)); exact HO_5.out, by repeat (first | (with_reducible first | exact HB.out | apply below_alloc | apply pw_below_drewN | apply below_drew1) | exact HB.out)⟩
 
   rw [if_pos c5] at H
   have c5b0 : decide (x6_1 ≤ (l0.length : Int)) = true := decide_eq_true c5
   clear c5
   have H' := Aside0.mk H
   clear H
   go_wp2
   go_loopg [7] k1 (fun kq v7 w' => ∃ (x7_2 : Int), v7 = .int .i64 x7_2 ∧ Aside0 (withyref17_Group.l1 kq l0 a1 x5_1 x6_1 x7_2 = some r) ∧ Aside0 (kq ≤ k1) ∧ Aside0 (Kd.R (Kd.int .i64) 3 w' w.heap.size (fun _ => True) u5 x5_1) ∧ Aside0 (Below w.heap.size w w'))
   case atStart => exact ⟨(1), (by first | rfl | (simp; done) | (simp [*]; done)), H', ⟨Nat.le_refl _⟩, ⟨by (with_reducible repeat (first | apply Kd.R_alloc | apply Kd.R_drewN | apply Kd.R_drew)); exact HO_5.out⟩, ⟨by repeat (first | (with_reducible first | exact HB.out | apply below_alloc | apply pw_below_drewN | apply below_drew1) | exact HB.out)⟩⟩
   case round =>
    clear H'
    try clear c1
    try clear p2
    try clear c5
    try clear c5b0
    try clear p2
    obtain ⟨x7_2, rfl, HA, HK2, HO_5, HB⟩ := hrel
    cases gk with
    | zero => exact absurd HA.out (by simp [withyref17_Group.l1])
    | succ k2 =>
     have H := HA.out
     clear HA
     simp only [withyref17_Group.l1] at H
     by_cases c6 : (wrap64 (x6_1 + x7_2)) ≤ (l0.length : Int)
     rotate_left
     ·rw [if_neg c6] at H
      have c6b0 : decide ((wrap64 (x6_1 + x7_2)) ≤ (l0.length : Int)) = false := decide_eq_false c6
      clear c6
      by_cases c13 : x5_1.length < 17592186044416
      rotate_left
      ·rw [if_neg c13] at H
       exact absurd H (by simp)
      rw [if_pos c13] at H
      have LMc13 := Aside0.mk c13
      clear c13
      obtain ⟨y233, hy233⟩ : ∃ y_ : List Int, y_ = (x5_1 ++ [x7_2]) := ⟨_, rfl⟩
      replace H : (withyref17_Group.l0 k2 l0 a1 y233 (wrap64 (x6_1 + x7_2))) = some r := by first | (rw [hy233]; with_reducible exact H) | (have H2_ := (Option.bind_some _ _).symm.trans H; rw [hy233]; with_reducible exact H2_) | (have H2_ := (Option.bind_some _ _).symm.trans H; with_reducible exact H2_) | with_reducible exact H | (rw [hy233]; exact H) | exact H
      have Ny233 := Aside0.mk hy233
      clear hy233
      have H' := Aside0.mk H
      clear H
      go_wp2_with (first | ((with_reducible refine gate_builtin (b := .append) (xs := #[.tmp 29, .tmp 31]) rfl ?_); at_builtin; refine Kd.R_append (Kd.int .i64) (w0 := w) w.heap.size rfl (.tmp 29) (.tmp 31) 27 3 (.int .i64 0) 8 rfl Try.underlying27 info3 rfl (by decide) (by omega) u5 x5_1 x7_2 [.int .i64 x7_2] (fun _ => True) (fun _ => False) rfl rfl ?aP (fun _ hk => hk.elim) ?aF ?aO ?aB ?aS ?aL ?_; (case aP => exact rfl); (case aB => exact bA); (case aF => exact (fun _ _ => trivial)); (case aO => exact (by (with_reducible repeat (first | apply Kd.R_alloc | apply Kd.R_drewN | apply Kd.R_drew)); exact HO_5.out)); (case aS => exact (below_size bA)); (case aL => have := LMc13.out; omega); intro v234 w14 ho hb hg hat; rw [← Ny233.out] at ho; have HO235 := as_ (ho); replace HB := as_ (hb); clear HO_5; clear ho hb hg hat))
      go_roundg k2
      case measure => have := HK1.out; have := HK2.out; omega
      case rel => exact ⟨(y233), (wrap64 (x6_1 + x7_2)), (by first | rfl | (simp; done) | (simp [*]; done)), H', ⟨by have := HK1.out; have := HK2.out; omega⟩, ⟨by (with_reducible repeat (first | apply Kd.R_alloc | apply Kd.R_drewN | apply Kd.R_drew)); exact HO235.out⟩, ⟨by repeat (first | (with_reducible first | exact HB.out | apply below_alloc | apply pw_below_drewN | apply below_drew1) | exact HB.out)⟩⟩
     rw [if_pos c6] at H
     have c6b0 : decide ((wrap64 (x6_1 + x7_2)) ≤ (l0.length : Int)) = true := decide_eq_true c6
     clear c6
     replace H := bM H
     obtain ⟨t229, A70, H⟩ := H
     replace H : (if t229 = true then (withyref17_Group.l1 k2 l0 a1 x5_1 x6_1 (wrap64 (x7_2 + 1))) else (if x5_1.length < 17592186044416 then (withyref17_Group.l0 k2 l0 a1 (x5_1 ++ [x7_2]) (wrap64 (x6_1 + x7_2))) else (none))) = some r := H
     have A7 := Aside0.mk A70
     clear A70
     by_cases c8 : t229 = true
     ·subst c8
      have H1 : (withyref17_Group.l1 k2 l0 a1 x5_1 x6_1 (wrap64 (x7_2 + 1))) = some r := by rw [if_pos rfl] at H; exact H
      clear H
      have H := H1
      clear H1
      have H' := Aside0.mk H
      clear H
      go_wp2_with (first | (go_at_call 31; (first | (with_reducible refine (withyref17_Room.calls k2 _ _ l0 x6_1 (wrap64 (x7_2 + 1)) a1 true _ ?side1 ?side2 A7.out).mono ?_) | (with_reducible refine (withyref17_Room.calls k2 _ _ l0 x6_1 (x7_2 + 1) a1 true _ ?side1 ?side2 (by have e_ := A7.out; rwa [(by unfold wrap64; omega : wrap64 (x7_2 + 1) = (x7_2 + 1))] at e_)).mono ?_)); (case side1 => repeat (first | exact (Kd.C_below HR0.out HB.out) | (with_reducible refine Kd.C_alloc ?_ _) | (with_reducible refine Kd.C_drewN ?_ _) | (with_reducible refine Kd.C_drew ?_))); (case side2 => exact HC0.out); rintro e w9 ⟨rfl, hb⟩; replace HO_5 := as_ (Kd.R_below (by (with_reducible repeat (first | apply Kd.R_alloc | apply Kd.R_drewN | apply Kd.R_drew)); exact HO_5.out) hb); replace HB := as_ (below_step bA hb); (try clear hb); (try clear hb2); (try clear hk); (try clear hi)))
      go_roundg k2
      case measure => have := HK1.out; have := HK2.out; omega
      case rel => exact ⟨(wrap64 (x7_2 + 1)), (by first | rfl | (simp; done) | (simp [*]; done)), H', ⟨by have := HK1.out; have := HK2.out; omega⟩, ⟨by (with_reducible repeat (first | apply Kd.R_alloc | apply Kd.R_drewN | apply Kd.R_drew)); exact HO_5.out⟩, ⟨by repeat (first | (with_reducible first | exact HB.out | apply below_alloc | apply pw_below_drewN | apply below_drew1) | exact HB.out)⟩⟩
     replace c8 := Bool.eq_false_iff.mpr c8
     subst c8
     have H1 : (if x5_1.length < 17592186044416 then (withyref17_Group.l0 k2 l0 a1 (x5_1 ++ [x7_2]) (wrap64 (x6_1 + x7_2))) else (none)) = some r := by rw [if_neg (show ¬ (false = true) by decide)] at H; exact H
     clear H
     have H := H1
     clear H1
     by_cases c10 : x5_1.length < 17592186044416
     rotate_left
     ·rw [if_neg c10] at H
      exact absurd H (by simp)
     rw [if_pos c10] at H
     have LMc10 := Aside0.mk c10
     clear c10
     obtain ⟨y230, hy230⟩ : ∃ y_ : List Int, y_ = (x5_1 ++ [x7_2]) := ⟨_, rfl⟩
     replace H : (withyref17_Group.l0 k2 l0 a1 y230 (wrap64 (x6_1 + x7_2))) = some r := by first | (rw [hy230]; with_reducible exact H) | (have H2_ := (Option.bind_some _ _).symm.trans H; rw [hy230]; with_reducible exact H2_) | (have H2_ := (Option.bind_some _ _).symm.trans H; with_reducible exact H2_) | with_reducible exact H | (rw [hy230]; exact H) | exact H
     have Ny230 := Aside0.mk hy230
     clear hy230
     have H' := Aside0.mk H
     clear H
     go_wp2_with (first | (go_at_call 31; (first | (with_reducible refine (withyref17_Room.calls k2 _ _ l0 x6_1 (wrap64 (x7_2 + 1)) a1 false _ ?side1 ?side2 A7.out).mono ?_) | (with_reducible refine (withyref17_Room.calls k2 _ _ l0 x6_1 (x7_2 + 1) a1 false _ ?side1 ?side2 (by have e_ := A7.out; rwa [(by unfold wrap64; omega : wrap64 (x7_2 + 1) = (x7_2 + 1))] at e_)).mono ?_)); (case side1 => repeat (first | exact (Kd.C_below HR0.out HB.out) | (with_reducible refine Kd.C_alloc ?_ _) | (with_reducible refine Kd.C_drewN ?_ _) | (with_reducible refine Kd.C_drew ?_))); (case side2 => exact HC0.out); rintro e w11 ⟨rfl, hb⟩; replace HO_5 := as_ (Kd.R_below (by (with_reducible repeat (first | apply Kd.R_alloc | apply Kd.R_drewN | apply Kd.R_drew)); exact HO_5.out) hb); replace HB := as_ (below_step bA hb); (try clear hb); (try clear hb2); (try clear hk); (try clear hi)) | ((with_reducible refine gate_builtin (b := .append) (xs := #[.tmp 29, .tmp 31]) rfl ?_); at_builtin; refine Kd.R_append (Kd.int .i64) (w0 := w) w.heap.size rfl (.tmp 29) (.tmp 31) 27 3 (.int .i64 0) 8 rfl Try.underlying27 info3 rfl (by decide) (by omega) u5 x5_1 x7_2 [.int .i64 x7_2] (fun _ => True) (fun _ => False) rfl rfl ?aP (fun _ hk => hk.elim) ?aF ?aO ?aB ?aS ?aL ?_; (case aP => exact rfl); (case aB => exact bA); (case aF => exact (fun _ _ => trivial)); (case aO => exact (by (with_reducible repeat (first | apply Kd.R_alloc | apply Kd.R_drewN | apply Kd.R_drew)); exact HO_5.out)); (case aS => exact (below_size bA)); (case aL => have := LMc10.out; omega); intro v231 w12 ho hb hg hat; rw [← Ny230.out] at ho; have HO232 := as_ (ho); replace HB := as_ (hb); clear HO_5; clear ho hb hg hat))
     go_roundg k2
     case measure => have := HK1.out; have := HK2.out; omega
     case rel => exact ⟨(y230), (wrap64 (x6_1 + x7_2)), (by first | rfl | (simp; done) | (simp [*]; done)), H', ⟨by have := HK1.out; have := HK2.out; omega⟩, ⟨by (with_reducible repeat (first | apply Kd.R_alloc | apply Kd.R_drewN | apply Kd.R_drew)); exact HO232.out⟩, ⟨by repeat (first | (with_reducible first | exact HB.out | apply below_alloc | apply pw_below_drewN | apply below_drew1) | exact HB.out)⟩⟩
/-! ### withyref01_Ints: function 15 -/
def withyref01_Ints.l0 : Nat → List Int → List Int → Int → Option (Bool)
 | 0, _, _, _ => none
 | k + 1, x0, x1, x5 => if x5 < (x0.length : Int) then (if 0 ≤ x5 then (if x5 < (x1.length : Int) then (if (rd x0 x5) = (rd x1 x5) then (withyref01_Ints.l0 k x0 x1 (wrap64 (x5 + 1))) else (some false)) else (none)) else (none)) else (some true)
def withyref01_Ints.f (k : Nat) (l0 : List Int) (l1 : List Int) : Option (Bool) := if (l0.length : Int) = (l1.length : Int) then (withyref01_Ints.l0 k l0 l1 0) else (some false)
theorem withyref01_Ints.mono_l : ∀ k, (∀ y0 y1 y2, LeO (withyref01_Ints.l0 k y0 y1 y2) (withyref01_Ints.l0 (k + 1) y0 y1 y2))
 | 0 => fun _ _ _ r h => by simp [withyref01_Ints.l0] at h
 | k + 1 => by
  have ih0 := withyref01_Ints.mono_l k
  ·intro y0 y1 y2
   unfold withyref01_Ints.l0
   repeat' first
   | (with_reducible exact ih0 _ _ _)
   | (with_reducible exact LeO.refl _)
   | (with_reducible exact LeO.none _)
   | (with_reducible refine LeO.ite ?_ ?_)
   | (with_reducible refine LeO.bind ?_ (fun _ => ?_))
   | exact ih0 _ _ _
   | exact LeO.none _
   | refine LeO.ite ?_ ?_
   | refine LeO.bind ?_ (fun _ => ?_)
theorem withyref01_Ints.mono : ∀ a0 a1 k, LeO (withyref01_Ints.f k a0 a1) (withyref01_Ints.f (k + 1) a0 a1) := by
 intro a0 a1 k
 have ih0 := withyref01_Ints.mono_l k
 unfold withyref01_Ints.f
 repeat' first
   | (with_reducible exact ih0 _ _ _)
   | (with_reducible exact LeO.refl _)
   | (with_reducible exact LeO.none _)
   | (with_reducible refine LeO.ite ?_ ?_)
   | (with_reducible refine LeO.bind ?_ (fun _ => ?_))
   | exact ih0 _ _ _
   | exact LeO.none _
   | refine LeO.ite ?_ ?_
   | refine LeO.bind ?_ (fun _ => ?_)
set_option maxHeartbeats 8000000 in
set_option maxRecDepth 100000 in
theorem withyref01_Ints.calls (k : Nat) (A0 : Option Addr) (c0 : Nat) (l0 : List Int) (A1 : Option Addr) (c1 : Nat) (l1 : List Int) (r : Bool) (w : World) (hr0 : Kd.C (Kd.int .i64) w A0 l0.length l0) (hc0 : l0.length ≤ c0) (hr1 : Kd.C (Kd.int .i64) w A1 l1.length l1) (hc1 : l1.length ≤ c1) (h : withyref01_Ints.f k l0 l1 = some r) :
  Calls Try.prog 15 #[.slice A0 l0.length c0, .slice A1 l1.length c1] w fun e w' => e = .returned (.bool r) ∧ Drawn0 w w' := by
 have HR0 := Aside0.mk hr0
 have HC0 := Aside0.mk hc0
 clear hr0 hc0
 have HR1 := Aside0.mk hr1
 have HC1 := Aside0.mk hc1
 clear hr1 hc1
 have H : (if (l0.length : Int) = (l1.length : Int) then (withyref01_Ints.l0 k l0 l1 0) else (some false)) = some r := h
 clear h
 by_cases c3 : (l0.length : Int) = (l1.length : Int)
 rotate_left
 ·rw [if_neg c3] at H
  have c3b0 : ((l0.length : Int) == (l1.length : Int)) = false := beq_eq_false_iff_ne.mpr c3
  have c3b1 : ((l0.length : Int) != (l1.length : Int)) = true := bne_iff_ne.mpr c3
  have c3b2 : (l0.length == l1.length) = false := by first | simpa using c3 | (simp at c3 ⊢; omega)
  obtain rfl := Option.some.inj H
  go_enter Try.func15, Try.ntmps15
  go_wp2
  repeat (go_quiet (fail); try go_wp2)
  go_ret
  exact ⟨by first | rfl | (simp; done) | (simp [*]; done), by repeat (first | exact Drawn0.refl _ | apply Drawn0.step)⟩
 
 rw [if_pos c3] at H
 have c3b0 : ((l0.length : Int) == (l1.length : Int)) = true := beq_iff_eq.mpr c3
 have c3b1 : ((l0.length : Int) != (l1.length : Int)) = false := bne_eq_false_iff_eq.mpr c3
 have c3b2 : (l0.length == l1.length) = true := by first | simpa using c3 | (simp at c3 ⊢; omega)
 clear c3
 have H' := Aside0.mk H
 clear H
 go_enter Try.func15, Try.ntmps15
 go_wp2
 repeat (go_quiet (fail); try go_wp2)
 go_loopg [5] k (fun kq v5 w' => ∃ (x5_1 : Int), v5 = .int .i64 x5_1 ∧ Aside0 (withyref01_Ints.l0 kq l0 l1 x5_1 = some r) ∧ Aside0 (kq ≤ k) ∧ Drawn0 w w')
 case atStart => exact ⟨(0), (by first | rfl | (simp; done) | (simp [*]; done)), H', ⟨Nat.le_refl _⟩, by repeat (first | exact Drawn0.refl _ | apply Drawn0.step)⟩
 case round =>
  clear H'
  try clear c1
  try clear p2
  try clear c3
  try clear c3b0
  try clear c3b1
  try clear c3b2
  obtain ⟨x5_1, rfl, HA, HK1, ⟨m1, rfl⟩⟩ := hrel
  cases gk with
  | zero => exact absurd HA.out (by simp [withyref01_Ints.l0])
  | succ k1 =>
   have H := HA.out
   clear HA
   simp only [withyref01_Ints.l0] at H
   by_cases c4 : x5_1 < (l0.length : Int)
   rotate_left
   ·rw [if_neg c4] at H
    have c4b0 : decide (x5_1 < (l0.length : Int)) = false := decide_eq_false c4
    clear c4
    obtain rfl := Option.some.inj H
    go_wp2
    repeat (go_quiet (fail); try go_wp2)
    go_ret
    exact ⟨by first | rfl | (simp; done) | (simp [*]; done), by repeat (first | exact Drawn0.refl _ | apply Drawn0.step)⟩
   rw [if_pos c4] at H
   have c4b0 : decide (x5_1 < (l0.length : Int)) = true := decide_eq_true c4
   clear c4
   by_cases c5 : 0 ≤ x5_1
   rotate_left
   ·rw [if_neg c5] at H
    exact absurd H (by simp)
   rw [if_pos c5] at H
   have c5b0 : decide (0 ≤ x5_1) = true := decide_eq_true c5
   clear c5
   by_cases c6 : x5_1 < (l1.length : Int)
   rotate_left
   ·rw [if_neg c6] at H
    exact absurd H (by simp)
   rw [if_pos c6] at H
   have c6b0 : decide (x5_1 < (l1.length : Int)) = true := decide_eq_true c6
   clear c6
   by_cases c7 : (rd l0 x5_1) = (rd l1 x5_1)
   rotate_left
   ·rw [if_neg c7] at H
    have c7b0 : ((rd l0 x5_1) == (rd l1 x5_1)) = false := beq_eq_false_iff_ne.mpr c7
    have c7b1 : ((rd l0 x5_1) != (rd l1 x5_1)) = true := bne_iff_ne.mpr c7
    obtain rfl := Option.some.inj H
    have p236 : 0 ≤ (x5_1 : Int) := of_decide_eq_true aM
    have q236 : x5_1 < (l0.length : Int) := of_decide_eq_true aM
    obtain ⟨ad236, e236, hx236_0⟩ := Kd.at_int HR0.out x5_1 p236 q236
    cases e236
    replace p236 := eq_true p236
    replace q236 := eq_true q236
    have p237 : 0 ≤ (x5_1 : Int) := of_decide_eq_true aM
    have q237 : x5_1 < (l1.length : Int) := of_decide_eq_true aM
    obtain ⟨ad237, e237, hx237_0⟩ := Kd.at_int HR1.out x5_1 p237 q237
    cases e237
    replace p237 := eq_true p237
    replace q237 := eq_true q237
    go_wp2
    repeat (go_quiet (fail); try go_wp2)
    go_ret
    exact ⟨by first | rfl | (simp; done) | (simp [*]; done), by repeat (first | exact Drawn0.refl _ | apply Drawn0.step)⟩
   rw [if_pos c7] at H
   have c7b0 : ((rd l0 x5_1) == (rd l1 x5_1)) = true := beq_iff_eq.mpr c7
   have c7b1 : ((rd l0 x5_1) != (rd l1 x5_1)) = false := bne_eq_false_iff_eq.mpr c7
   clear c7
   have H' := Aside0.mk H
   clear H
   have p236 : 0 ≤ (x5_1 : Int) := of_decide_eq_true aM
   have q236 : x5_1 < (l0.length : Int) := of_decide_eq_true aM
   obtain ⟨ad236, e236, hx236_0⟩ := Kd.at_int HR0.out x5_1 p236 q236
   cases e236
   replace p236 := eq_true p236
   replace q236 := eq_true q236
   have p237 : 0 ≤ (x5_1 : Int) := of_decide_eq_true aM
   have q237 : x5_1 < (l1.length : Int) := of_decide_eq_true aM
   obtain ⟨ad237, e237, hx237_0⟩ := Kd.at_int HR1.out x5_1 p237 q237
   cases e237
   replace p237 := eq_true p237
   replace q237 := eq_true q237
   go_wp2
   repeat (go_quiet (fail); try go_wp2)
   go_roundg k1
   case measure => have := HK1.out; omega
   case rel => exact ⟨(wrap64 (x5_1 + 1)), (by first | rfl | (simp; done) | (simp [*]; done)), H', ⟨by have := HK1.out; omega⟩, by repeat (first | exact Drawn0.refl _ | apply Drawn0.step)⟩
-- NOT PRINTED: function 32 (level_pages)

/-! ### sep_shared_byte: function 95 -/
def sep_shared_byte.l0 : Nat → List Int → List Int → Int → Option (Int)
 | 0, _, _, _ => none
 | k + 1, x0, x1, x5 => if x5 < (mn (x0.length : Int) (x1.length : Int)) then (if 0 ≤ x5 then (if x5 < (x0.length : Int) then (if x5 < (x1.length : Int) then (if (rd x0 x5) = (rd x1 x5) then (sep_shared_byte.l0 k x0 x1 (wrap64 (x5 + 1))) else (some x5)) else (none)) else (none)) else (none)) else (some x5)
def sep_shared_byte.f (k : Nat) (l0 : List Int) (l1 : List Int) : Option (Int) := sep_shared_byte.l0 k l0 l1 0
theorem sep_shared_byte.mono_l : ∀ k, (∀ y0 y1 y2, LeO (sep_shared_byte.l0 k y0 y1 y2) (sep_shared_byte.l0 (k + 1) y0 y1 y2))
 | 0 => fun _ _ _ r h => by simp [sep_shared_byte.l0] at h
 | k + 1 => by
  have ih0 := sep_shared_byte.mono_l k
  ·intro y0 y1 y2
   unfold sep_shared_byte.l0
   repeat' first
   | (with_reducible exact ih0 _ _ _)
   | (with_reducible exact LeO.refl _)
   | (with_reducible exact LeO.none _)
   | (with_reducible refine LeO.ite ?_ ?_)
   | (with_reducible refine LeO.bind ?_ (fun _ => ?_))
   | exact ih0 _ _ _
   | exact LeO.none _
   | refine LeO.ite ?_ ?_
   | refine LeO.bind ?_ (fun _ => ?_)
theorem sep_shared_byte.mono : ∀ a0 a1 k, LeO (sep_shared_byte.f k a0 a1) (sep_shared_byte.f (k + 1) a0 a1) := by
 intro a0 a1 k
 have ih0 := sep_shared_byte.mono_l k
 unfold sep_shared_byte.f
 repeat' first
   | (with_reducible exact ih0 _ _ _)
   | (with_reducible exact LeO.refl _)
   | (with_reducible exact LeO.none _)
   | (with_reducible refine LeO.ite ?_ ?_)
   | (with_reducible refine LeO.bind ?_ (fun _ => ?_))
   | exact ih0 _ _ _
   | exact LeO.none _
   | refine LeO.ite ?_ ?_
   | refine LeO.bind ?_ (fun _ => ?_)
set_option maxHeartbeats 8000000 in
set_option maxRecDepth 100000 in
theorem sep_shared_byte.calls (k : Nat) (A0 : Option Addr) (c0 : Nat) (l0 : List Int) (A1 : Option Addr) (c1 : Nat) (l1 : List Int) (r : Int) (w : World) (hr0 : Kd.C (Kd.int .u8) w A0 l0.length l0) (hc0 : l0.length ≤ c0) (hr1 : Kd.C (Kd.int .u8) w A1 l1.length l1) (hc1 : l1.length ≤ c1) (h : sep_shared_byte.f k l0 l1 = some r) :
  Calls Try.prog 95 #[.slice A0 l0.length c0, .slice A1 l1.length c1] w fun e w' => e = .returned (.int .i64 r) ∧ Below w.heap.size w w' := by
 have HR0 := Aside0.mk hr0
 have HC0 := Aside0.mk hc0
 clear hr0 hc0
 have HR1 := Aside0.mk hr1
 have HC1 := Aside0.mk hc1
 clear hr1 hc1
 have HB := as_ (Below.refl w.heap.size w)
 have H : (sep_shared_byte.l0 k l0 l1 0) = some r := h
 clear h
 have H' := Aside0.mk H
 clear H
 go_enter Try.func95, Try.ntmps95
 go_wp2
 repeat (go_quiet (fail); try go_wp2)
 go_loopg [5] k (fun kq v5 w' => ∃ (x5_1 : Int), v5 = .int .i64 x5_1 ∧ Aside0 (sep_shared_byte.l0 kq l0 l1 x5_1 = some r) ∧ Aside0 (kq ≤ k) ∧ Aside0 (Below w.heap.size w w'))
 case atStart => exact ⟨(0), (by first | rfl | (simp; done) | (simp [*]; done)), H', ⟨Nat.le_refl _⟩, ⟨by repeat (first | (with_reducible first | exact HB.out | apply below_alloc | apply pw_below_drewN | apply below_drew1) | exact HB.out)⟩⟩
 case round =>
  clear H'
  try clear c1
  try clear p2
  obtain ⟨x5_1, rfl, HA, HK1, HB⟩ := hrel
  cases gk with
  | zero => exact absurd HA.out (by simp [sep_shared_byte.l0])
  | succ k1 =>
   have H := HA.out
   clear HA
   simp only [sep_shared_byte.l0] at H
   obtain ⟨ji3, hji3⟩ : ∃ j_ : Int, (mn (l0.length : Int) (l1.length : Int)) = j_ := ⟨_, rfl⟩
   replace H : (if x5_1 < (ji3) then (if 0 ≤ x5_1 then (if x5_1 < (l0.length : Int) then (if x5_1 < (l1.length : Int) then (if (rd l0 x5_1) = (rd l1 x5_1) then (sep_shared_byte.l0 k1 l0 l1 (wrap64 (x5_1 + 1))) else (some x5_1)) else (none)) else (none)) else (none)) else (some x5_1)) = some r := by first | (rw [hji3] at H; exact H) | (simp only [hji3] at H ⊢; exact H)
   have hji3_ : (if (l1.length : Int) < (l0.length : Int) then (l1.length : Int) else (l0.length : Int)) = ji3 := hji3
   (try (have hji3n : (if l1.length < l0.length then (l1.length : Int) else (l0.length : Int)) = ji3 := by simpa only [Int.ofNat_lt] using hji3_))
   by_cases c4 : x5_1 < (ji3)
   rotate_left
   ·rw [if_neg c4] at H
    have c4b0 : decide (x5_1 < (ji3)) = false := decide_eq_false c4
    clear c4
    obtain rfl := Option.some.inj H
    go_wp2
    repeat (go_quiet (fail); try go_wp2)
    go_ret
    exact ⟨by first | rfl | (simp [errW_none, errW_some] <;> rfl) | (simp only [← hji3]; first | rfl | (simp [errW_none, errW_some] <;> rfl)) | (simp [*, errW_none, errW_some] <;> rfl), by repeat (first | (with_reducible first | exact HB.out | apply below_alloc | apply pw_below_drewN | apply below_drew1) | exact HB.out)⟩
 
   rw [if_pos c4] at H
   have c4b0 : decide (x5_1 < (ji3)) = true := decide_eq_true c4
   clear c4
   by_cases c5 : 0 ≤ x5_1
   rotate_left
   ·rw [if_neg c5] at H
    exact absurd H (by simp)
   rw [if_pos c5] at H
   have c5b0 : decide (0 ≤ x5_1) = true := decide_eq_true c5
   clear c5
   by_cases c6 : x5_1 < (l0.length : Int)
   rotate_left
   ·rw [if_neg c6] at H
    exact absurd H (by simp)
   rw [if_pos c6] at H
   have c6b0 : decide (x5_1 < (l0.length : Int)) = true := decide_eq_true c6
   clear c6
   by_cases c7 : x5_1 < (l1.length : Int)
   rotate_left
   ·rw [if_neg c7] at H
    exact absurd H (by simp)
   rw [if_pos c7] at H
   have c7b0 : decide (x5_1 < (l1.length : Int)) = true := decide_eq_true c7
   clear c7
   by_cases c8 : (rd l0 x5_1) = (rd l1 x5_1)
   rotate_left
   ·rw [if_neg c8] at H
    have c8b0 : ((rd l0 x5_1) == (rd l1 x5_1)) = false := beq_eq_false_iff_ne.mpr c8
    have c8b1 : ((rd l0 x5_1) != (rd l1 x5_1)) = true := bne_iff_ne.mpr c8
    obtain rfl := Option.some.inj H
    have p238 : 0 ≤ (x5_1 : Int) := of_decide_eq_true aM
    have q238 : x5_1 < (l0.length : Int) := of_decide_eq_true aM
    obtain ⟨ad238, e238, hx238_0⟩ := Kd.at_int HR0.out x5_1 p238 q238
    cases e238
    replace hx238_0 := (HB.out.cell (World.block_lt_of_cell? w _ hx238_0)).trans hx238_0
    replace p238 := eq_true p238
    replace q238 := eq_true q238
    have p239 : 0 ≤ (x5_1 : Int) := of_decide_eq_true aM
    have q239 : x5_1 < (l1.length : Int) := of_decide_eq_true aM
    obtain ⟨ad239, e239, hx239_0⟩ := Kd.at_int HR1.out x5_1 p239 q239
    cases e239
    replace hx239_0 := (HB.out.cell (World.block_lt_of_cell? w _ hx239_0)).trans hx239_0
    replace p239 := eq_true p239
    replace q239 := eq_true q239
    go_wp2
    repeat (go_quiet (fail); try go_wp2)
    go_ret
    exact ⟨by first | rfl | (simp [errW_none, errW_some] <;> rfl) | (simp only [← hji3]; first | rfl | (simp [errW_none, errW_some] <;> rfl)) | (simp [*, errW_none, errW_some] <;> rfl), by repeat (first | (with_reducible first | exact HB.out | apply below_alloc | apply pw_below_drewN | apply below_drew1) | exact HB.out)⟩
   rw [if_pos c8] at H
   have c8b0 : ((rd l0 x5_1) == (rd l1 x5_1)) = true := beq_iff_eq.mpr c8
   have c8b1 : ((rd l0 x5_1) != (rd l1 x5_1)) = false := bne_eq_false_iff_eq.mpr c8
   clear c8
   have H' := Aside0.mk H
   clear H
   have p238 : 0 ≤ (x5_1 : Int) := of_decide_eq_true aM
   have q238 : x5_1 < (l0.length : Int) := of_decide_eq_true aM
   obtain ⟨ad238, e238, hx238_0⟩ := Kd.at_int HR0.out x5_1 p238 q238
   cases e238
   replace hx238_0 := (HB.out.cell (World.block_lt_of_cell? w _ hx238_0)).trans hx238_0
   replace p238 := eq_true p238
   replace q238 := eq_true q238
   have p239 : 0 ≤ (x5_1 : Int) := of_decide_eq_true aM
   have q239 : x5_1 < (l1.length : Int) := of_decide_eq_true aM
   obtain ⟨ad239, e239, hx239_0⟩ := Kd.at_int HR1.out x5_1 p239 q239
   cases e239
   replace hx239_0 := (HB.out.cell (World.block_lt_of_cell? w _ hx239_0)).trans hx239_0
   replace p239 := eq_true p239
   replace q239 := eq_true q239
   go_wp2
   repeat (go_quiet (fail); try go_wp2)
   go_roundg k1
   case measure => have := HK1.out; omega
   case rel => exact ⟨(wrap64 (x5_1 + 1)), (by first | rfl | (simp; done) | (simp [*]; done)), H', ⟨by have := HK1.out; omega⟩, ⟨by repeat (first | (with_reducible first | exact HB.out | apply below_alloc | apply pw_below_drewN | apply below_drew1) | exact HB.out)⟩⟩
/-! ### sep_Common: function 82, by hand -/
def sep_Common.f (k : Nat) (a0 : ByteArray) (a1 : ByteArray) : Option (Int) := if a0.size ≤ 9223372036854775807 then (if a1.size ≤ 9223372036854775807 then (sep_shared_byte.f k (bytesOf a0) (bytesOf a1)) else (none)) else (none)
theorem sep_Common.mono : ∀ a0 a1 k, LeO (sep_Common.f k a0 a1) (sep_Common.f (k + 1) a0 a1) := by
 intro a0 a1 k
 unfold sep_Common.f
 exact LeO.ite (LeO.ite (sep_shared_byte.mono _ _ k) (LeO.none _)) (LeO.none _)
/-- '[]byte(s)', as the walk meets it. -/
theorem sep_bytes_run (s : ByteArray) (W : World) : (convert 9 58 (.string s)).run Try.prog W = .ok (.slice (some ⟨W.heap.size, 0, none⟩) (bytesOf s).length (grownCap W s.size 0 5)) (Lib.bytesWorld W 5 s) := by
 rw [bytesOf_length]
 exact print_bytes 9 58 5 Try.underlying9 Try.underlying58 Try.underlying5 s W
theorem sep_bytes_C (s : ByteArray) (W : World) (h : s.size ≤ 9223372036854775807) : Kd.C (Kd.int .u8) (Lib.bytesWorld W 5 s) (some ⟨W.heap.size, 0, none⟩) (bytesOf s).length (bytesOf s) := by
 have hr := bytes_reads W 5 s h
 rw [← bytesOf_length s] at hr
 exact Kd.C_of_reads (d := (0 : Int)) (h1 := fun _ => rfl) hr
set_option maxHeartbeats 1000000 in
theorem sep_Common.calls (k : Nat) (a0 : ByteArray) (a1 : ByteArray) (r : Int) (w : World) (h : sep_Common.f k a0 a1 = some r) :
  Calls Try.prog 82 #[.string a0, .string a1] w fun e w' => e = .returned (.int .i64 r) ∧ Below w.heap.size w w' := by
 unfold sep_Common.f at h
 by_cases h0 : a0.size ≤ 9223372036854775807
 rotate_left
 ·rw [if_neg h0] at h
  cases h
 
 
 by_cases h1 : a1.size ≤ 9223372036854775807
 rotate_left
 ·rw [if_pos h0, if_neg h1] at h
  cases h
 rw [if_pos h0, if_pos h1] at h
 have H := Aside0.mk h
 clear h
 have kb0 := sep_bytes_run a0
 have kb1 := sep_bytes_run a1
 have hC0 := as_ (sep_bytes_C a0 w h0)
 have hC1 := as_ (sep_bytes_C a1 (Lib.bytesWorld w 5 a0) h1)
 have hb0 := as_ (bytes_below (Below.refl w.heap.size w) (Nat.le_refl _) 5 a0)
 have hb1 := as_ (bytes_below (B := w.heap.size) hb0.out (by rw [Lib.bytesWorld_size]; omega) 5 a1)
 have hb2 := as_ (bytes_below (Below.refl (Lib.bytesWorld w 5 a0).heap.size (Lib.bytesWorld w 5 a0)) (Nat.le_refl _) 5 a1)
 have hg0 := as_ (Nat.le_trans (Nat.le_of_eq (bytesOf_length a0)) (grownCap_ge w a0.size 0 5))
 have hg1 := as_ (Nat.le_trans (Nat.le_of_eq (bytesOf_length a1)) (grownCap_ge (Lib.bytesWorld w 5 a0) a1.size 0 5))
 clear h0 h1
 go_enter Try.func82, Try.ntmps82
 go_wp2_with fail
 refine (sep_shared_byte.calls k _ _ _ _ _ _ r _ (Kd.C_below hC0.out hb2.out) hg0.out hC1.out hg1.out H.out).mono ?_
 rintro e w' ⟨rfl, hb⟩
 go_wp2
 go_ret
 exact ⟨rfl, hb1.out.trans (hb.mono (by rw [Lib.bytesWorld_size, Lib.bytesWorld_size]; omega))⟩
/-! ### sep_least: function 83 -/
def sep_least.l0 : Nat → Int → List Int → Int → Int → Option (Int)
 | 0, _, _, _, _ => none
 | k + 1, x0, x7, x8, x9 => if x9 < x8 then (if 0 ≤ x9 then (if x9 < (x7.length : Int) then (sep_least.l0 k (mn x0 (rd x7 x9)) x7 x8 (wrap64 (x9 + 1))) else (none)) else (none)) else (some x0)
def sep_least.f (k : Nat) (a0 : Int) (l1 : List Int) : Option (Int) := sep_least.l0 k a0 l1 (l1.length : Int) 0
theorem sep_least.mono_l : ∀ k, (∀ y0 y1 y2 y3, LeO (sep_least.l0 k y0 y1 y2 y3) (sep_least.l0 (k + 1) y0 y1 y2 y3))
 | 0 => fun _ _ _ _ r h => by simp [sep_least.l0] at h
 | k + 1 => by
  have ih0 := sep_least.mono_l k
  ·intro y0 y1 y2 y3
   unfold sep_least.l0
   repeat' first
   | (with_reducible exact ih0 _ _ _ _)
   | (with_reducible exact LeO.refl _)
   | (with_reducible exact LeO.none _)
   | (with_reducible refine LeO.ite ?_ ?_)
   | (with_reducible refine LeO.bind ?_ (fun _ => ?_))
   | exact ih0 _ _ _ _
   | exact LeO.none _
   | refine LeO.ite ?_ ?_
   | refine LeO.bind ?_ (fun _ => ?_)
theorem sep_least.mono : ∀ a0 a1 k, LeO (sep_least.f k a0 a1) (sep_least.f (k + 1) a0 a1) := by
 intro a0 a1 k
 have ih0 := sep_least.mono_l k
 unfold sep_least.f
 repeat' first
   | (with_reducible exact ih0 _ _ _ _)
   | (with_reducible exact LeO.refl _)
   | (with_reducible exact LeO.none _)
   | (with_reducible refine LeO.ite ?_ ?_)
   | (with_reducible refine LeO.bind ?_ (fun _ => ?_))
   | exact ih0 _ _ _ _
   | exact LeO.none _
   | refine LeO.ite ?_ ?_
   | refine LeO.bind ?_ (fun _ => ?_)
set_option maxHeartbeats 8000000 in
set_option maxRecDepth 100000 in
theorem sep_least.calls (k : Nat) (a0 : Int) (A1 : Option Addr) (c1 : Nat) (l1 : List Int) (r : Int) (w : World) (hr1 : Kd.C (Kd.int .i64) w A1 l1.length l1) (hc1 : l1.length ≤ c1) (h : sep_least.f k a0 l1 = some r) :
  Calls Try.prog 83 #[.int .i64 a0, .slice A1 l1.length c1] w fun e w' => e = .returned (.int .i64 r) ∧ Below w.heap.size w w' := by
 have HR1 := Aside0.mk hr1
 have HC1 := Aside0.mk hc1
 clear hr1 hc1
 have HB := as_ (Below.refl w.heap.size w)
 have H : (sep_least.l0 k a0 l1 (l1.length : Int) 0) = some r := h
 clear h
 have H' := Aside0.mk H
 clear H
 go_enter Try.func83, Try.ntmps83
 go_wp2
 go_loopg [0, 9] k (fun kq v0 v9 w' => ∃ (x0_1 : Int) (x9_1 : Int), v0 = .int .i64 x0_1 ∧ v9 = .int .i64 x9_1 ∧ Aside0 (sep_least.l0 kq x0_1 l1 (l1.length : Int) x9_1 = some r) ∧ Aside0 (kq ≤ k) ∧ Aside0 (Below w.heap.size w w'))
 case atStart => exact ⟨(a0), (0), (by first | rfl | (simp; done) | (simp [*]; done)), (by first | rfl | (simp; done) | (simp [*]; done)), H', ⟨Nat.le_refl _⟩, ⟨by repeat (first | (with_reducible first | exact HB.out | apply below_alloc | apply pw_below_drewN | apply below_drew1) | exact HB.out)⟩⟩
 case round =>
  clear H'
  try clear c1
  try clear p2
  obtain ⟨x0_1, x9_1, rfl, rfl, HA, HK1, HB⟩ := hrel
  cases gk with
  | zero => exact absurd HA.out (by simp [sep_least.l0])
  | succ k1 =>
   have H := HA.out
   clear HA
   simp only [sep_least.l0] at H
   by_cases c3 : x9_1 < (l1.length : Int)
   rotate_left
   ·rw [if_neg c3] at H
    have c3b0 : decide (x9_1 < (l1.length : Int)) = false := decide_eq_false c3
    clear c3
    obtain rfl := Option.some.inj H
    go_wp2
    go_ret
    exact ⟨eW, by repeat (first | (with_reducible first | exact HB.out | apply below_alloc | apply pw_below_drewN | apply below_drew1) | exact HB.out)⟩
 
   rw [if_pos c3] at H
   have c3b0 : decide (x9_1 < (l1.length : Int)) = true := decide_eq_true c3
   clear c3
   by_cases c4 : 0 ≤ x9_1
   rotate_left
   ·rw [if_neg c4] at H
    exact absurd H (by simp)
   rw [if_pos c4] at H
   have c4b0 : decide (0 ≤ x9_1) = true := decide_eq_true c4
   clear c4
   by_cases c5 : x9_1 < (l1.length : Int)
   rotate_left
   ·rw [if_neg c5] at H
    exact absurd H (by simp)
   rw [if_pos c5] at H
   have c5b0 : decide (x9_1 < (l1.length : Int)) = true := decide_eq_true c5
   clear c5
   obtain ⟨ji6, hji6⟩ : ∃ j_ : Int, (mn x0_1 (rd l1 x9_1)) = j_ := ⟨_, rfl⟩
   replace H : (sep_least.l0 k1 ji6 l1 (l1.length : Int) (wrap64 (x9_1 + 1))) = some r := by first | (rw [hji6] at H; exact H) | (simp only [hji6] at H ⊢; exact H)
   have hji6_ : (if (rd l1 x9_1) < x0_1 then (rd l1 x9_1) else x0_1) = ji6 := hji6
   have H' := Aside0.mk H
   clear H
   have p240 : 0 ≤ (x9_1 : Int) := of_decide_eq_true aM
   have q240 : x9_1 < (l1.length : Int) := of_decide_eq_true aM
   obtain ⟨ad240, e240, hx240_0⟩ := Kd.at_int HR1.out x9_1 p240 q240
   cases e240
   replace hx240_0 := (HB.out.cell (World.block_lt_of_cell? w _ hx240_0)).trans hx240_0
   replace p240 := eq_true p240
   replace q240 := eq_true q240
   go_wp2
   go_roundg k1
   case measure => have := HK1.out; omega
   case rel => exact ⟨(ji6), (wrap64 (x9_1 + 1)), (by first | rfl | (simp; done) | (simp only [← hji6] <;> (first | rfl | simp)) | (simp [*]; done)), (by first | rfl | (simp; done) | (simp [*]; done)), H', ⟨by have := HK1.out; omega⟩, ⟨by repeat (first | (with_reducible first | exact HB.out | apply below_alloc | apply pw_below_drewN | apply below_drew1) | exact HB.out)⟩⟩
/-! ### sep_Span: function 65 -/
def sep_Span.l0 : Nat → List ByteArray → List Int → List ByteArray → Int → Int → Option (Int)
 | 0, _, _, _, _, _ => none
 | k + 1, x0, x3, x10, x11, x12 => if x12 < x11 then (if 0 ≤ x12 then (if x12 < (x10.length : Int) then (if 0 < (x0.length : Int) then ((sep_Common.f k (rdOf ByteArray.empty x0 0) (rdOf ByteArray.empty x10 x12)).bind fun t247 => (if x3.length < 17592186044416 then (sep_Span.l0 k x0 (x3 ++ [t247]) x10 x11 (wrap64 (x12 + 1))) else (none))) else (none)) else (none)) else (none)) else (if 0 < (x0.length : Int) then ((sep_least.f k ((rdOf ByteArray.empty x0 0).size : Int) x3).bind fun t252 => (some t252)) else (none))
def sep_Span.f (k : Nat) (l0 : List ByteArray) : Option (Int) := if (l0.length : Int) = 0 then (some 0) else (if 1 ≤ (l0.length : Int) then ((some (l0.drop 1 : List ByteArray)).bind fun y241 => (sep_Span.l0 k l0 ([] : List Int) y241 (y241.length : Int) 0)) else (none))
theorem sep_Span.mono_l : ∀ k, (∀ y0 y1 y2 y3 y4, LeO (sep_Span.l0 k y0 y1 y2 y3 y4) (sep_Span.l0 (k + 1) y0 y1 y2 y3 y4))
 | 0 => fun _ _ _ _ _ r h => by simp [sep_Span.l0] at h
 | k + 1 => by
  have ih0 := sep_Span.mono_l k
  ·intro y0 y1 y2 y3 y4
   unfold sep_Span.l0
   repeat' first
   | (with_reducible exact ih0 _ _ _ _ _)
   | (with_reducible exact sep_Common.mono _ _ _)
   | (with_reducible exact sep_least.mono _ _ _)
   | (with_reducible exact LeO.refl _)
   | (with_reducible exact LeO.none _)
   | (with_reducible refine LeO.ite ?_ ?_)
   | (with_reducible refine LeO.bind ?_ (fun _ => ?_))
   | exact ih0 _ _ _ _ _
   | exact sep_Common.mono _ _ _
   | exact sep_least.mono _ _ _
   | exact LeO.none _
   | refine LeO.ite ?_ ?_
   | refine LeO.bind ?_ (fun _ => ?_)
theorem sep_Span.mono : ∀ a0 k, LeO (sep_Span.f k a0) (sep_Span.f (k + 1) a0) := by
 intro a0 k
 have ih0 := sep_Span.mono_l k
 unfold sep_Span.f
 repeat' first
   | (with_reducible exact ih0 _ _ _ _ _)
   | (with_reducible exact sep_Common.mono _ _ _)
   | (with_reducible exact sep_least.mono _ _ _)
   | (with_reducible exact LeO.refl _)
   | (with_reducible exact LeO.none _)
   | (with_reducible refine LeO.ite ?_ ?_)
   | (with_reducible refine LeO.bind ?_ (fun _ => ?_))
   | exact ih0 _ _ _ _ _
   | exact sep_Common.mono _ _ _
   | exact sep_least.mono _ _ _
   | exact LeO.none _
   | refine LeO.ite ?_ ?_
   | refine LeO.bind ?_ (fun _ => ?_)
set_option maxHeartbeats 8000000 in
set_option maxRecDepth 100000 in
theorem sep_Span.calls (k : Nat) (A0 : Option Addr) (c0 : Nat) (l0 : List ByteArray) (r : Int) (w : World) (hr0 : Kd.C Kd.string w A0 l0.length l0) (hc0 : l0.length ≤ c0) (h : sep_Span.f k l0 = some r) :
  Calls Try.prog 65 #[.slice A0 l0.length c0] w fun e w' => e = .returned (.int .i64 r) ∧ Below w.heap.size w w' := by
 have HR0 := Aside0.mk hr0
 have HC0 := Aside0.mk hc0
 clear hr0 hc0
 have HB := as_ (Below.refl w.heap.size w)
 have H : (if (l0.length : Int) = 0 then (some 0) else (if 1 ≤ (l0.length : Int) then ((some (l0.drop 1 : List ByteArray)).bind fun y241 => (sep_Span.l0 k l0 ([] : List Int) y241 (y241.length : Int) 0)) else (none))) = some r := h
 clear h
 by_cases c2 : (l0.length : Int) = 0
 ·rw [if_pos c2] at H
  have c2b0 : ((l0.length : Int) == 0) = true := beq_iff_eq.mpr c2
  have c2b1 : ((l0.length : Int) != 0) = false := bne_eq_false_iff_eq.mpr c2
  clear c2
  obtain rfl := Option.some.inj H
  go_enter Try.func65, Try.ntmps65
  go_wp2
  go_ret
  exact ⟨eW, by repeat (first | (with_reducible first | exact HB.out | apply below_alloc | apply pw_below_drewN | apply below_drew1) | exact HB.out)⟩
 rw [if_neg c2] at H
 have c2b0 : ((l0.length : Int) == 0) = false := beq_eq_false_iff_ne.mpr c2
 have c2b1 : ((l0.length : Int) != 0) = true := bne_iff_ne.mpr c2
 have c2b2 : ¬ (l0 = []) := fun h_ => c2 (by rw [h_]; rfl)
 by_cases c3 : 1 ≤ (l0.length : Int)
 rotate_left
 ·rw [if_neg c3] at H
  exact absurd H (by simp)
 
 rw [if_pos c3] at H
 have c3b0 := eq_true c3
 have c3b1 : decide (1 ≤ (l0.length : Int)) = true := decide_eq_true c3
 clear c3
 obtain ⟨y241, hy241⟩ : ∃ y_ : List ByteArray, y_ = (l0.drop 1) := ⟨_, rfl⟩
 replace H : (sep_Span.l0 k l0 ([] : List Int) y241 (y241.length : Int) 0) = some r := by first | (rw [hy241]; with_reducible exact H) | (have H2_ := (Option.bind_some _ _).symm.trans H; rw [hy241]; with_reducible exact H2_) | (have H2_ := (Option.bind_some _ _).symm.trans H; with_reducible exact H2_) | with_reducible exact H | (rw [hy241]; exact H) | exact H
 have Ny241 := Aside0.mk hy241
 clear hy241
 have H' := Aside0.mk H
 clear H
 have q4 : (1 : Int) ≤ ((l0.length : Int) : Int) := of_decide_eq_true aM
 obtain ⟨i04, hi04, _, hsz4, _⟩ := info_parts info9
 have hroom4 : l0.length ≤ c0 := HC0.out
 have hC4 : Kd.C Kd.string _ A0 l0.length l0 := HR0.out
 have hcut4 := cut_from (P := Try.prog) 22 9 .i64 Try.underlying22 hi04 1 hsz4 A0 l0.length c0 1 (by omega) q4
 have hr4 := Kd.C_drop (m := (1 : Int).toNat) (c := c0) hC4 (by omega) hroom4
 obtain ⟨A4, hA4⟩ : ∃ A1, A1 = (if c0 = (1 : Int).toNat then A0 else (A0 : Option Addr).map (·.add ((1 : Int).toNat * 1))) := ⟨_, rfl⟩
 obtain ⟨c4, hc4⟩ : ∃ c1, c1 = c0 - (1 : Int).toNat := ⟨_, rfl⟩
 have hy4 : y241.length = l0.length - (1 : Int).toNat := (by rw [Ny241.out, List.length_drop] <;> omega)
 rw [show (l0).drop (1 : Int).toNat = y241 from Ny241.out.symm] at hr4
 replace hr4 : Kd.C Kd.string _ A4 y241.length y241 := (by rw [hA4]; exact hr4)
 rw [← hy4, ← hA4, ← hc4] at hcut4
 have HR244 := Aside0.mk hr4
 have HC244 := as_ (show y241.length ≤ c4 from by rw [hy4, hc4]; exact Nat.sub_le_sub_right hroom4 _)
 clear hr4 hC4 hroom4 hi04 hsz4 hc4
 have KY4 := Aside0.mk hy4
 have KA4 := Aside0.mk hA4
 clear hy4 hA4
 replace q4 := eq_true q4
 go_enter Try.func65, Try.ntmps65
 go_wp2
 go_loopg [3, 12] k (fun kq v3 v12 w' => ∃ (x3_1 : List Int) (x12_1 : Int), v12 = .int .i64 x12_1 ∧ Aside0 (sep_Span.l0 kq l0 x3_1 y241 (y241.length : Int) x12_1 = some r) ∧ Aside0 (kq ≤ k) ∧ Aside0 (Kd.R (Kd.int .i64) 3 w' w.heap.size (fun _ => True) v3 x3_1) ∧ Aside0 (Below w.heap.size w w'))
 case atStart => exact ⟨(([] : List Int)), (0), (by first | rfl | (simp; done) | (simp [*]; done)), H', ⟨Nat.le_refl _⟩, ⟨by first | exact Kd.R_nil _ _ _ _ _ | exact Kd.N_nil _ _ _ _ _ | exact Kd.V_nil _ _ _ _ _ | exact Kd.Q_nil _ _ _ _ _ | exact Kd.S_nil _ _ _ _ _⟩, ⟨by repeat (first | (with_reducible first | exact HB.out | apply below_alloc | apply pw_below_drewN | apply below_drew1) | exact HB.out)⟩⟩
 case round =>
  clear H'
  try clear c1
  try clear c2
  try clear c2b0
  try clear c2b1
  try clear c2b2
  try clear p2
  try clear c3
  try clear c3b0
  try clear c3b1
  try clear c4
  try clear q4
  try clear q4
  obtain ⟨x3_1, x12_1, rfl, HA, HK1, HO_3, HB⟩ := hrel
  cases gk with
  | zero => exact absurd HA.out (by simp [sep_Span.l0])
  | succ k1 =>
   have H := HA.out
   clear HA
   simp only [sep_Span.l0] at H
   by_cases c5 : x12_1 < (y241.length : Int)
   rotate_left
   ·rw [if_neg c5] at H
    have c5b0 : decide (x12_1 < (y241.length : Int)) = false := decide_eq_false c5
    clear c5
    by_cases c13 : 0 < (l0.length : Int)
    rotate_left
    ·rw [if_neg c13] at H
     exact absurd H (by simp)
    rw [if_pos c13] at H
    have c13b0 : decide (0 < (l0.length : Int)) = true := decide_eq_true c13
    have c13b1 : decide (0 < l0.length) = true := decide_eq_true (by omega)
    clear c13
    replace H := bM H
    obtain ⟨t252, A140, H⟩ := H
    replace H : (some t252) = some r := H
    have A14 := Aside0.mk A140
    clear A140
    obtain rfl := Option.some.inj H
    have p251 : 0 ≤ (0 : Int) := (by omega)
    have q251 : 0 < (l0.length : Int) := of_decide_eq_true aM
    obtain ⟨ad251, e251, hx251_0⟩ := Kd.at_string HR0.out 0 p251 q251
    cases e251
    have qi251 : (0 < l0.length) = True := eq_true (by omega)
    (try rw [show ((0 : Int)).toNat = 0 from rfl] at hx251_0)
    (try rw [Addr.add_zero'] at hx251_0)
    replace hx251_0 := (HB.out.cell (World.block_lt_of_cell? w _ hx251_0)).trans hx251_0
    replace p251 := eq_true p251
    replace q251 := eq_true q251
    obtain ⟨Ao15, co15, eo15⟩ := Kd.R_slice HO_3.out
    subst eo15
    go_wp2_with (first | ((with_reducible refine gate_callee (f := 83) rfl ?_); refine goesL_ (some 30) rfl rfl Try.func83 (by kernel_rfl) rfl #[.int .i64 ((rdOf ByteArray.empty l0 0).size : Int), .slice Ao15 x3_1.length co15] rfl aO ?_; (with_reducible refine (sep_least.calls k1 ((rdOf ByteArray.empty l0 0).size : Int) _ _ x3_1 t252 _ ?side1 ?side2 A14.out).mono ?_); (case side1 => repeat (first | exact (Kd.R_reads' HO_3.out).2.2 | (with_reducible refine Kd.C_alloc ?_ _) | (with_reducible refine Kd.C_drewN ?_ _) | (with_reducible refine Kd.C_drew ?_))); (case side2 => exact (Kd.R_reads' HO_3.out).2.1); rintro e w16 ⟨rfl, hb⟩; refine ⟨_, rfl, ?_⟩; replace HO_3 := as_ (Kd.R_below (by (with_reducible repeat (first | apply Kd.R_alloc | apply Kd.R_drewN | apply Kd.R_drew)); exact HO_3.out) hb); replace HB := as_ (below_step bA hb); (try clear hb); (try clear hb2); (try clear hk); (try clear hi)))
    go_ret
    exact ⟨eW, by repeat (first | (with_reducible first | exact HB.out | apply below_alloc | apply pw_below_drewN | apply below_drew1) | exact HB.out)⟩
   rw [if_pos c5] at H
   have c5b0 : decide (x12_1 < (y241.length : Int)) = true := decide_eq_true c5
   clear c5
   by_cases c6 : 0 ≤ x12_1
   rotate_left
   ·rw [if_neg c6] at H
    exact absurd H (by simp)
   rw [if_pos c6] at H
   have c6b0 : decide (0 ≤ x12_1) = true := decide_eq_true c6
   clear c6
   by_cases c7 : x12_1 < (y241.length : Int)
   rotate_left
   ·rw [if_neg c7] at H
    exact absurd H (by simp)
   rw [if_pos c7] at H
   have c7b0 : decide (x12_1 < (y241.length : Int)) = true := decide_eq_true c7
   clear c7
   by_cases c8 : 0 < (l0.length : Int)
   rotate_left
   ·rw [if_neg c8] at H
    exact absurd H (by simp)
   rw [if_pos c8] at H
   have c8b0 : decide (0 < (l0.length : Int)) = true := decide_eq_true c8
   have c8b1 : decide (0 < l0.length) = true := decide_eq_true (by omega)
   clear c8
   replace H := bM H
   obtain ⟨t247, A90, H⟩ := H
   replace H : (if x3_1.length < 17592186044416 then (sep_Span.l0 k1 l0 (x3_1 ++ [t247]) y241 (y241.length : Int) (wrap64 (x12_1 + 1))) else (none)) = some r := H
   have A9 := Aside0.mk A90
   clear A90
   by_cases c10 : x3_1.length < 17592186044416
   rotate_left
   ·rw [if_neg c10] at H
    exact absurd H (by simp)
   rw [if_pos c10] at H
   have LMc10 := Aside0.mk c10
   clear c10
   obtain ⟨y248, hy248⟩ : ∃ y_ : List Int, y_ = (x3_1 ++ [t247]) := ⟨_, rfl⟩
   replace H : (sep_Span.l0 k1 l0 y248 y241 (y241.length : Int) (wrap64 (x12_1 + 1))) = some r := by first | (rw [hy248]; with_reducible exact H) | (have H2_ := (Option.bind_some _ _).symm.trans H; rw [hy248]; with_reducible exact H2_) | (have H2_ := (Option.bind_some _ _).symm.trans H; with_reducible exact H2_) | with_reducible exact H | (rw [hy248]; exact H) | exact H
   have Ny248 := Aside0.mk hy248
   clear hy248
   have H' := Aside0.mk H
   clear H
   have p245 : 0 ≤ (x12_1 : Int) := of_decide_eq_true aM
   have q245 : x12_1 < (y241.length : Int) := of_decide_eq_true aM
   obtain ⟨ad245, e245, hx245_0⟩ := Kd.at_string HR244.out x12_1 p245 q245
   cases e245
   replace hx245_0 := (HB.out.cell (World.block_lt_of_cell? w _ hx245_0)).trans hx245_0
   replace p245 := eq_true p245
   replace q245 := eq_true q245
   have p246 : 0 ≤ (0 : Int) := (by omega)
   have q246 : 0 < (l0.length : Int) := of_decide_eq_true aM
   obtain ⟨ad246, e246, hx246_0⟩ := Kd.at_string HR0.out 0 p246 q246
   cases e246
   have qi246 : (0 < l0.length) = True := eq_true (by omega)
   (try rw [show ((0 : Int)).toNat = 0 from rfl] at hx246_0)
   (try rw [Addr.add_zero'] at hx246_0)
   replace hx246_0 := (HB.out.cell (World.block_lt_of_cell? w _ hx246_0)).trans hx246_0
   replace p246 := eq_true p246
   replace q246 := eq_true q246
   go_wp2_with (first | ((with_reducible refine gate_callee (f := 82) rfl ?_); refine goesL_ (some 21) rfl rfl Try.func82 (by kernel_rfl) rfl #[.string (rdOf ByteArray.empty l0 0), .string (rdOf ByteArray.empty y241 x12_1)] rfl aO ?_; (with_reducible refine (sep_Common.calls k1 (rdOf ByteArray.empty l0 0) (rdOf ByteArray.empty y241 x12_1) t247 _ A9.out).mono ?_); rintro e w11 ⟨rfl, hb⟩; refine ⟨_, rfl, ?_⟩; replace HO_3 := as_ (Kd.R_below (by (with_reducible repeat (first | apply Kd.R_alloc | apply Kd.R_drewN | apply Kd.R_drew)); exact HO_3.out) hb); replace HB := as_ (below_step bA hb); (try clear hb); (try clear hb2); (try clear hk); (try clear hi)) | ((with_reducible refine gate_builtin (b := .append) (xs := #[.tmp 16, .tmp 22]) rfl ?_); at_builtin; refine Kd.R_append (Kd.int .i64) (w0 := w) w.heap.size rfl (.tmp 16) (.tmp 22) 27 3 (.int .i64 0) 8 rfl Try.underlying27 info3 rfl (by decide) (by omega) u3 x3_1 t247 [.int .i64 t247] (fun _ => True) (fun _ => False) rfl rfl ?aP (fun _ hk => hk.elim) ?aF ?aO ?aB ?aS ?aL ?_; (case aP => exact rfl); (case aB => exact bA); (case aF => exact (fun _ _ => trivial)); (case aO => exact (by (with_reducible repeat (first | apply Kd.R_alloc | apply Kd.R_drewN | apply Kd.R_drew)); exact HO_3.out)); (case aS => exact (below_size bA)); (case aL => have := LMc10.out; omega); intro v249 w12 ho hb hg hat; rw [← Ny248.out] at ho; have HO250 := as_ (ho); replace HB := as_ (hb); clear HO_3; clear ho hb hg hat))
   go_roundg k1
   case measure => have := HK1.out; omega
   case rel => exact ⟨(y248), (wrap64 (x12_1 + 1)), (by first | rfl | (simp; done) | (simp [*]; done)), H', ⟨by have := HK1.out; omega⟩, ⟨by (with_reducible repeat (first | apply Kd.R_alloc | apply Kd.R_drewN | apply Kd.R_drew)); exact HO250.out⟩, ⟨by repeat (first | (with_reducible first | exact HB.out | apply below_alloc | apply pw_below_drewN | apply below_drew1) | exact HB.out)⟩⟩
/-! ### sep_Strip: function 50 -/
def sep_Strip.l0 : Nat → List ByteArray → Int → List ByteArray → List ByteArray → Int → Int → Option (ByteArray × List ByteArray)
 | 0, _, _, _, _, _, _ => none
 | k + 1, x0, x4, x5, x10, x11, x12 => if x12 < x11 then (if 0 ≤ x12 then (if x12 < (x10.length : Int) then (if 0 ≤ x4 then (if x4 ≤ ((rdOf ByteArray.empty x10 x12).size : Int) then (if x5.length < 8796093022208 then (sep_Strip.l0 k x0 x4 (x5 ++ [(rdOf ByteArray.empty x10 x12).extract (x4 : Int).toNat (rdOf ByteArray.empty x10 x12).size]) x10 x11 (wrap64 (x12 + 1))) else (none)) else (none)) else (none)) else (none)) else (none)) else (if (x0.length : Int) = 0 then (some ((⟨#[]⟩ : ByteArray), x5)) else (if 0 < (x0.length : Int) then (if 0 ≤ x4 then (if x4 ≤ ((rdOf ByteArray.empty x0 0).size : Int) then (some ((rdOf ByteArray.empty x0 0).extract 0 (x4 : Int).toNat, x5)) else (none)) else (none)) else (none)))
def sep_Strip.f (k : Nat) (l0 : List ByteArray) : Option (ByteArray × List ByteArray) := (sep_Span.f k l0).bind fun t253 => (sep_Strip.l0 k l0 t253 ([] : List ByteArray) l0 (l0.length : Int) 0)
theorem sep_Strip.mono_l : ∀ k, (∀ y0 y1 y2 y3 y4 y5, LeO (sep_Strip.l0 k y0 y1 y2 y3 y4 y5) (sep_Strip.l0 (k + 1) y0 y1 y2 y3 y4 y5))
 | 0 => fun _ _ _ _ _ _ r h => by simp [sep_Strip.l0] at h
 | k + 1 => by
  have ih0 := sep_Strip.mono_l k
  ·intro y0 y1 y2 y3 y4 y5
   unfold sep_Strip.l0
   repeat' first
   | (with_reducible exact ih0 _ _ _ _ _ _)
   | (with_reducible exact sep_Span.mono _ _)
   | (with_reducible exact LeO.refl _)
   | (with_reducible exact LeO.none _)
   | (with_reducible refine LeO.ite ?_ ?_)
   | (with_reducible refine LeO.bind ?_ (fun _ => ?_))
   | exact ih0 _ _ _ _ _ _
   | exact sep_Span.mono _ _
   | exact LeO.none _
   | refine LeO.ite ?_ ?_
   | refine LeO.bind ?_ (fun _ => ?_)
theorem sep_Strip.mono : ∀ a0 k, LeO (sep_Strip.f k a0) (sep_Strip.f (k + 1) a0) := by
 intro a0 k
 have ih0 := sep_Strip.mono_l k
 unfold sep_Strip.f
 repeat' first
   | (with_reducible exact ih0 _ _ _ _ _ _)
   | (with_reducible exact sep_Span.mono _ _)
   | (with_reducible exact LeO.refl _)
   | (with_reducible exact LeO.none _)
   | (with_reducible refine LeO.ite ?_ ?_)
   | (with_reducible refine LeO.bind ?_ (fun _ => ?_))
   | exact ih0 _ _ _ _ _ _
   | exact sep_Span.mono _ _
   | exact LeO.none _
   | refine LeO.ite ?_ ?_
   | refine LeO.bind ?_ (fun _ => ?_)
set_option maxHeartbeats 8000000 in
set_option maxRecDepth 100000 in
theorem sep_Strip.calls (k : Nat) (A0 : Option Addr) (c0 : Nat) (l0 : List ByteArray) (r1 : ByteArray) (r2 : List ByteArray) (w : World) (hr0 : Kd.C Kd.string w A0 l0.length l0) (hc0 : l0.length ≤ c0) (h : sep_Strip.f k l0 = some (r1, r2)) :
  Calls Try.prog 50 #[.slice A0 l0.length c0] w fun e w' => ∃ v1_ : Value, e = .returned (.tuple #[.string r1, v1_]) ∧ Kd.R Kd.string 9 w' w.heap.size (fun _ => True) v1_ r2 ∧ Below w.heap.size w w' := by
 have HR0 := Aside0.mk hr0
 have HC0 := Aside0.mk hc0
 clear hr0 hc0
 have HB := as_ (Below.refl w.heap.size w)
 have H : ((sep_Span.f k l0).bind fun t253 => (sep_Strip.l0 k l0 t253 ([] : List ByteArray) l0 (l0.length : Int) 0)) = some (r1, r2) := h
 clear h
 replace H := bM H
 obtain ⟨t253, A20, H⟩ := H
 replace H : (sep_Strip.l0 k l0 t253 ([] : List ByteArray) l0 (l0.length : Int) 0) = some (r1, r2) := H
 have A2 := Aside0.mk A20
 clear A20
 have H' := Aside0.mk H
 clear H
 go_enter Try.func50, Try.ntmps50
 go_wp2_with (first | ((with_reducible refine gate_callee (f := 65) rfl ?_); refine goesL_ (some 9) rfl rfl Try.func65 (by kernel_rfl) rfl #[.slice A0 l0.length c0] rfl aO ?_; (with_reducible refine (sep_Span.calls k _ _ l0 t253 _ ?side1 ?side2 A2.out).mono ?_); (case side1 => repeat (first | exact HR0.out | (with_reducible refine Kd.C_alloc ?_ _) | (with_reducible refine Kd.C_drewN ?_ _) | (with_reducible refine Kd.C_drew ?_))); (case side2 => exact HC0.out); rintro e w3 ⟨rfl, hb⟩; refine ⟨_, rfl, ?_⟩; replace HB := as_ (below_step bA hb); (try clear hb); (try clear hb2); (try clear hk); (try clear hi)))
 go_loopg [5, 12] k (fun kq v5 v12 w' => ∃ (x5_1 : List ByteArray) (x12_1 : Int), v12 = .int .i64 x12_1 ∧ Aside0 (sep_Strip.l0 kq l0 t253 x5_1 l0 (l0.length : Int) x12_1 = some (r1, r2)) ∧ Aside0 (kq ≤ k) ∧ Aside0 (Kd.R Kd.string 9 w' w.heap.size (fun _ => True) v5 x5_1) ∧ Aside0 (Below w.heap.size w w'))
 case atStart => exact ⟨(([] : List ByteArray)), (0), (by first | rfl | (simp; done) | (simp [*]; done)), H', ⟨Nat.le_refl _⟩, ⟨by first | exact Kd.R_nil _ _ _ _ _ | exact Kd.N_nil _ _ _ _ _ | exact Kd.V_nil _ _ _ _ _ | exact Kd.Q_nil _ _ _ _ _ | exact Kd.S_nil _ _ _ _ _⟩, ⟨by repeat (first | (with_reducible first | exact HB.out | apply below_alloc | apply pw_below_drewN | apply below_drew1) | exact HB.out)⟩⟩
 case round =>
  clear H'
  try clear p2
  obtain ⟨x5_1, x12_1, rfl, HA, HK1, HO_5, HB⟩ := hrel
  cases gk with
  | zero => exact absurd HA.out (by simp [sep_Strip.l0])
  | succ k1 =>
   have H := HA.out
   clear HA
   simp only [sep_Strip.l0] at H
   by_cases c4 : x12_1 < (l0.length : Int)
   rotate_left
   ·rw [if_neg c4] at H
    have c4b0 : decide (x12_1 < (l0.length : Int)) = false := decide_eq_false c4
    clear c4
    by_cases c12 : (l0.length : Int) = 0
    ·rw [if_pos c12] at H
     have c12b0 : ((l0.length : Int) == 0) = true := beq_iff_eq.mpr c12
     have c12b1 : ((l0.length : Int) != 0) = false := bne_eq_false_iff_eq.mpr c12
     clear c12
     simp only [Option.some.injEq, Prod.mk.injEq] at H
     obtain ⟨rfl, rfl⟩ := H
     go_wp2
     go_ret2
     exact ⟨_, eW, by (with_reducible repeat (first | apply Kd.R_alloc | apply Kd.R_drewN | apply Kd.R_drew)); exact HO_5.out, by repeat (first | (with_reducible first | exact HB.out | apply below_alloc | apply pw_below_drewN | apply below_drew1) | exact HB.out)⟩
    rw [if_neg c12] at H
    have c12b0 : ((l0.length : Int) == 0) = false := beq_eq_false_iff_ne.mpr c12
    have c12b1 : ((l0.length : Int) != 0) = true := bne_iff_ne.mpr c12
    have c12b2 : ¬ (l0 = []) := fun h_ => c12 (by rw [h_]; rfl)
    by_cases c13 : 0 < (l0.length : Int)
    rotate_left
    ·rw [if_neg c13] at H
     exact absurd H (by simp)
  
    rw [if_pos c13] at H
    have c13b0 : decide (0 < (l0.length : Int)) = true := decide_eq_true c13
    have c13b1 : decide (0 < l0.length) = true := decide_eq_true (by omega)
    clear c13
    by_cases c14 : 0 ≤ t253
    rotate_left
    ·rw [if_neg c14] at H
     exact absurd H (by simp)
    rw [if_pos c14] at H
    have c14b0 := eq_true c14
    have c14b1 : decide (0 ≤ t253) = true := decide_eq_true c14
    clear c14
    by_cases c15 : t253 ≤ ((rdOf ByteArray.empty l0 0).size : Int)
    rotate_left
    ·rw [if_neg c15] at H
     exact absurd H (by simp)
    rw [if_pos c15] at H
    have c15b0 := eq_true c15
    have c15b1 : decide (t253 ≤ ((rdOf ByteArray.empty l0 0).size : Int)) = true := decide_eq_true c15
    clear c15
    obtain ⟨js16, hjs16⟩ : ∃ j_ : ByteArray, ((rdOf ByteArray.empty l0 0).extract 0 (t253 : Int).toNat) = j_ := ⟨_, rfl⟩
    replace H : (some (js16, x5_1)) = some (r1, r2) := by first | (rw [hjs16] at H; exact H) | (simp only [hjs16] at H ⊢; exact H)
    simp only [Option.some.injEq, Prod.mk.injEq] at H
    obtain ⟨rfl, rfl⟩ := H
    have p258 : 0 ≤ (0 : Int) := (by omega)
    have q258 : 0 < (l0.length : Int) := of_decide_eq_true aM
    obtain ⟨ad258, e258, hx258_0⟩ := Kd.at_string HR0.out 0 p258 q258
    cases e258
    have qi258 : (0 < l0.length) = True := eq_true (by omega)
    (try rw [show ((0 : Int)).toNat = 0 from rfl] at hx258_0)
    (try rw [Addr.add_zero'] at hx258_0)
    replace hx258_0 := (HB.out.cell (World.block_lt_of_cell? w _ hx258_0)).trans hx258_0
    replace p258 := eq_true p258
    replace q258 := eq_true q258
    go_wp2
    go_ret2
    exact ⟨_, by first | rfl | (simp [errW_none, errW_some] <;> rfl) | (simp only [← hjs16]; first | rfl | (simp [errW_none, errW_some] <;> rfl)) | (simp [*, errW_none, errW_some] <;> rfl), by (with_reducible repeat (first | apply Kd.R_alloc | apply Kd.R_drewN | apply Kd.R_drew)); exact HO_5.out, by repeat (first | (with_reducible first | exact HB.out | apply below_alloc | apply pw_below_drewN | apply below_drew1) | exact HB.out)⟩
   rw [if_pos c4] at H
   have c4b0 : decide (x12_1 < (l0.length : Int)) = true := decide_eq_true c4
   clear c4
   by_cases c5 : 0 ≤ x12_1
   rotate_left
   ·rw [if_neg c5] at H
    exact absurd H (by simp)
   rw [if_pos c5] at H
   have c5b0 : decide (0 ≤ x12_1) = true := decide_eq_true c5
   clear c5
   by_cases c6 : x12_1 < (l0.length : Int)
   rotate_left
   ·rw [if_neg c6] at H
    exact absurd H (by simp)
   rw [if_pos c6] at H
   have c6b0 : decide (x12_1 < (l0.length : Int)) = true := decide_eq_true c6
   clear c6
   by_cases c7 : 0 ≤ t253
   rotate_left
   ·rw [if_neg c7] at H
    exact absurd H (by simp)
   rw [if_pos c7] at H
   have c7b0 := eq_true c7
   have c7b1 : decide (0 ≤ t253) = true := decide_eq_true c7
   clear c7
   by_cases c8 : t253 ≤ ((rdOf ByteArray.empty l0 x12_1).size : Int)
   rotate_left
   ·rw [if_neg c8] at H
    exact absurd H (by simp)
   rw [if_pos c8] at H
   have c8b0 := eq_true c8
   have c8b1 : decide (t253 ≤ ((rdOf ByteArray.empty l0 x12_1).size : Int)) = true := decide_eq_true c8
   clear c8
   obtain ⟨js9, hjs9⟩ : ∃ j_ : ByteArray, ((rdOf ByteArray.empty l0 x12_1).extract (t253 : Int).toNat (rdOf ByteArray.empty l0 x12_1).size) = j_ := ⟨_, rfl⟩
   replace H : (if x5_1.length < 8796093022208 then (sep_Strip.l0 k1 l0 t253 (x5_1 ++ [js9]) l0 (l0.length : Int) (wrap64 (x12_1 + 1))) else (none)) = some (r1, r2) := by first | (rw [hjs9] at H; exact H) | (simp only [hjs9] at H ⊢; exact H)
   by_cases c10 : x5_1.length < 8796093022208
   rotate_left
   ·rw [if_neg c10] at H
    exact absurd H (by simp)
   rw [if_pos c10] at H
   have LMc10 := Aside0.mk c10
   clear c10
   obtain ⟨y255, hy255⟩ : ∃ y_ : List ByteArray, y_ = (x5_1 ++ [js9]) := ⟨_, rfl⟩
   replace H : (sep_Strip.l0 k1 l0 t253 y255 l0 (l0.length : Int) (wrap64 (x12_1 + 1))) = some (r1, r2) := by first | (rw [hy255]; with_reducible exact H) | (have H2_ := (Option.bind_some _ _).symm.trans H; rw [hy255]; with_reducible exact H2_) | (have H2_ := (Option.bind_some _ _).symm.trans H; with_reducible exact H2_) | with_reducible exact H | (rw [hy255]; exact H) | exact H
   have Ny255 := Aside0.mk hy255
   clear hy255
   have H' := Aside0.mk H
   clear H
   have p254 : 0 ≤ (x12_1 : Int) := of_decide_eq_true aM
   have q254 : x12_1 < (l0.length : Int) := of_decide_eq_true aM
   obtain ⟨ad254, e254, hx254_0⟩ := Kd.at_string HR0.out x12_1 p254 q254
   cases e254
   replace hx254_0 := (HB.out.cell (World.block_lt_of_cell? w _ hx254_0)).trans hx254_0
   replace p254 := eq_true p254
   replace q254 := eq_true q254
   go_wp2_with (first | ((with_reducible refine gate_builtin (b := .append) (xs := #[.tmp 16, .tmp 20]) rfl ?_); at_builtin; refine Kd.R_append Kd.string (w0 := w) w.heap.size rfl (.tmp 16) (.tmp 20) 22 9 (.string ⟨#[]⟩) 16 rfl Try.underlying22 info9 rfl (by decide) (by omega) u5 x5_1 js9 [.string js9] (fun _ => True) (fun _ => False) rfl rfl ?aP (fun _ hk => hk.elim) ?aF ?aO ?aB ?aS ?aL ?_; (case aP => exact rfl); (case aB => exact bA); (case aF => exact (fun _ _ => trivial)); (case aO => exact (by (with_reducible repeat (first | apply Kd.R_alloc | apply Kd.R_drewN | apply Kd.R_drew)); exact HO_5.out)); (case aS => exact (below_size bA)); (case aL => have := LMc10.out; omega); intro v256 w11 ho hb hg hat; rw [← Ny255.out] at ho; have HO257 := as_ (ho); replace HB := as_ (hb); clear HO_5; clear ho hb hg hat))
   go_roundg k1
   case measure => have := HK1.out; omega
   case rel => exact ⟨(y255), (wrap64 (x12_1 + 1)), (by first | rfl | (simp; done) | (simp [*]; done)), H', ⟨by have := HK1.out; omega⟩, ⟨by (with_reducible repeat (first | apply Kd.R_alloc | apply Kd.R_drewN | apply Kd.R_drew)); exact HO257.out⟩, ⟨by repeat (first | (with_reducible first | exact HB.out | apply below_alloc | apply pw_below_drewN | apply below_drew1) | exact HB.out)⟩⟩
end Go.Proofs.Ytfialmegikegbaa.P
