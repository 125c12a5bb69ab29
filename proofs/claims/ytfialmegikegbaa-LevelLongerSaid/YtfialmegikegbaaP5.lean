/- What is proved here: for functions of the Go text, a Lean function each, and that the call comes to just what it answers. Conditions: as each contract names them. Written by wip/tools/myprint.py, a driver of the print of the kit. -/
import Derived.Test.YtfialmegikegbaaP0
import Derived.Test.YtfialmegikegbaaP4
import Derived.Test.YtfialmegikegbaaWAbbr
namespace Go.Proofs.Ytfialmegikegbaa.P
open Go.RowKit Go.Proofs.YtfialmegikegbaaW.PrintWords Go.Proofs.YtfialmegikegbaaW.PrintLast Go.Proofs.YtfialmegikegbaaW.PrintMore Go.Proofs.YtfialmegikegbaaW.Abbr
-- PACKED
attribute [local go_sem] max2_int min2_int max_two min_two max_three min_three max_four min_four Go.Proofs.YtfialmegikegbaaLaws.str_leq Go.Proofs.YtfialmegikegbaaLaws.str_gtr Go.Proofs.YtfialmegikegbaaLaws.str_geq Go.Proofs.YtfialmegikegbaaLaws.max2_str Go.Proofs.YtfialmegikegbaaLaws.min2_str   -- for this text's walks alone
set_option linter.unusedVariables false
set_option linter.unusedSimpArgs false

/-! ### level_fits: function 38 -/
def level_fits.l0 : Nat → List ByteArray → Int → Int → Int → Int → Int → Int → Int → ByteArray → List Int → List ByteArray → Option (Bool)
 | 0, _, _, _, _, _, _, _, _, _, _, _ => none
 | k + 1, x0, x1, x2, x18, x19, x309000, x309001, x309002, x309003, x309004, x309005 => if x19 < x18 then (if 0 ≤ x19 then (if x19 < (x309004.length : Int) then (level_fits.l0 k x0 x1 x2 x18 (wrap64 (x19 + 1)) x309000 x309001 x309002 x309003 (x309004.set (x19 : Int).toNat 1) x309005) else (none)) else (none)) else (if x1 ≤ (x0.length : Int) then (if 0 ≤ (wrap64 (x1 - 1)) then (if (wrap64 (x1 - 1)) < (x0.length : Int) then ((inner_Size.f k x309000 x309001 x309002 (rdOf ByteArray.empty x0 (wrap64 (x1 - 1))) x309004 x309005).bind fun t311 => (some (decide (t311 ≤ (wrap64 (x2 - 16)))))) else (none)) else (none)) else ((inner_Size.f k x309000 x309001 x309002 x309003 x309004 x309005).bind fun t312 => (some (decide (t312 ≤ (wrap64 (x2 - 16)))))))
def level_fits.f (k : Nat) (l0 : List ByteArray) (a1 : Int) (a2 : Int) : Option (Bool) := if 0 ≤ a1 then (if (a1 : Int).toNat ≤ 35184372088832 then ((some (List.replicate (a1 : Int).toNat 0 : List Int)).bind fun y304 => (if 0 ≤ (wrap64 (a1 - 1)) then (if (wrap64 (a1 - 1)) ≤ (l0.length : Int) then (level_fits.l0 k l0 a1 a2 (y304.length : Int) 0 0 0 0 (⟨#[]⟩ : ByteArray) y304 (l0.take ((wrap64 (a1 - 1)) : Int).toNat)) else (none)) else (none))) else (none)) else (none)
theorem level_fits.mono_l : ∀ k, (∀ y0 y1 y2 y3 y4 y5 y6 y7 y8 y9 y10, LeO (level_fits.l0 k y0 y1 y2 y3 y4 y5 y6 y7 y8 y9 y10) (level_fits.l0 (k + 1) y0 y1 y2 y3 y4 y5 y6 y7 y8 y9 y10))
 | 0 => fun _ _ _ _ _ _ _ _ _ _ _ r h => by simp [level_fits.l0] at h
 | k + 1 => by
  have ih0 := level_fits.mono_l k
  ·intro y0 y1 y2 y3 y4 y5 y6 y7 y8 y9 y10
   unfold level_fits.l0
   repeat' first
   | (with_reducible exact ih0 _ _ _ _ _ _ _ _ _ _ _)
   | (with_reducible exact inner_Size.mono _ _ _ _ _ _ _)
   | (with_reducible exact LeO.refl _)
   | (with_reducible exact LeO.none _)
   | (with_reducible refine LeO.ite ?_ ?_)
   | (with_reducible refine LeO.bind ?_ (fun _ => ?_))
   | exact ih0 _ _ _ _ _ _ _ _ _ _ _
   | exact inner_Size.mono _ _ _ _ _ _ _
   | exact LeO.none _
   | refine LeO.ite ?_ ?_
   | refine LeO.bind ?_ (fun _ => ?_)
theorem level_fits.mono : ∀ a0 a1 a2 k, LeO (level_fits.f k a0 a1 a2) (level_fits.f (k + 1) a0 a1 a2) := by
 intro a0 a1 a2 k
 have ih0 := level_fits.mono_l k
 unfold level_fits.f
 repeat' first
   | (with_reducible exact ih0 _ _ _ _ _ _ _ _ _ _ _)
   | (with_reducible exact inner_Size.mono _ _ _ _ _ _ _)
   | (with_reducible exact LeO.refl _)
   | (with_reducible exact LeO.none _)
   | (with_reducible refine LeO.ite ?_ ?_)
   | (with_reducible refine LeO.bind ?_ (fun _ => ?_))
   | exact ih0 _ _ _ _ _ _ _ _ _ _ _
   | exact inner_Size.mono _ _ _ _ _ _ _
   | exact LeO.none _
   | refine LeO.ite ?_ ?_
   | refine LeO.bind ?_ (fun _ => ?_)
def level_fits.T1 : Bool × List (List Nat × List Nat) := (true, [([], []), ([0, 0], [0]), ([], []), ([], []), ([3], [3]), ([2, 4], [2, 4]), ([1, 5], [1, 5]), ([], []), ([7, 6, 0, 1, 2, 3, 4, 5, 6, 7], [6, 7])])
def level_fits.B1 : List Nat := [0, 1, 0, 0, 8, 28, 63, 0, 255]
theorem level_fits.tab1 : rtab .any (opsOf Try.f38 1) = level_fits.T1 := by kernel_rfl
theorem level_fits.bits1 : waitsOk level_fits.T1.2 level_fits.B1 = true := by kernel_rfl
set_option maxHeartbeats 8000000 in
set_option maxRecDepth 100000 in
theorem level_fits.calls (k : Nat) (A0 : Option Addr) (c0 : Nat) (l0 : List ByteArray) (a1 : Int) (a2 : Int) (r : Bool) (w : World) (hr0 : Kd.C Kd.string w A0 l0.length l0) (hc0 : l0.length ≤ c0) (h : level_fits.f k l0 a1 a2 = some r) :
  Calls Try.prog 38 #[.slice A0 l0.length c0, .int .i64 a1, .int .i64 a2] w fun e w' => e = .returned (.bool r) ∧ Below w.heap.size w w' := by
 have hu50 := Try.underlying50
 have HR0 := Aside0.mk hr0
 have HC0 := Aside0.mk hc0
 clear hr0 hc0
 have HB := as_ (Below.refl w.heap.size w)
 have H : (if 0 ≤ a1 then (if (a1 : Int).toNat ≤ 35184372088832 then ((some (List.replicate (a1 : Int).toNat 0 : List Int)).bind fun y304 => (if 0 ≤ (wrap64 (a1 - 1)) then (if (wrap64 (a1 - 1)) ≤ (l0.length : Int) then (level_fits.l0 k l0 a1 a2 (y304.length : Int) 0 0 0 0 (⟨#[]⟩ : ByteArray) y304 (l0.take ((wrap64 (a1 - 1)) : Int).toNat)) else (none)) else (none))) else (none)) else (none)) = some r := h
 clear h
 by_cases c4 : 0 ≤ a1
 rotate_left
 ·rw [if_neg c4] at H
  exact absurd H (by simp)
 
 rw [if_pos c4] at H
 have c4b0 := eq_true c4
 have c4b1 : decide (0 ≤ a1) = true := decide_eq_true c4
 clear c4
 by_cases c5 : (a1 : Int).toNat ≤ 35184372088832
 rotate_left
 ·rw [if_neg c5] at H
  exact absurd H (by simp)
 rw [if_pos c5] at H
 have c5b0 := eq_true c5
 have c5b1 : decide ((a1 : Int).toNat ≤ 35184372088832) = true := decide_eq_true c5
 clear c5
 obtain ⟨y304, hy304⟩ : ∃ y_ : List Int, y_ = (List.replicate (a1 : Int).toNat 0) := ⟨_, rfl⟩
 replace H : (if 0 ≤ (wrap64 (a1 - 1)) then (if (wrap64 (a1 - 1)) ≤ (l0.length : Int) then (level_fits.l0 k l0 a1 a2 (y304.length : Int) 0 0 0 0 (⟨#[]⟩ : ByteArray) y304 (l0.take ((wrap64 (a1 - 1)) : Int).toNat)) else (none)) else (none)) = some r := by first | (rw [hy304]; with_reducible exact H) | (have H2_ := (Option.bind_some _ _).symm.trans H; rw [hy304]; with_reducible exact H2_) | (have H2_ := (Option.bind_some _ _).symm.trans H; with_reducible exact H2_) | with_reducible exact H | (rw [hy304]; exact H) | exact H
 have Ny304 := Aside0.mk hy304
 clear hy304
 obtain ⟨ji6, hji6⟩ : ∃ j_ : Int, (wrap64 (a1 - 1)) = j_ := ⟨_, rfl⟩
 replace H : (if 0 ≤ (ji6) then (if (ji6) ≤ (l0.length : Int) then (level_fits.l0 k l0 a1 a2 (y304.length : Int) 0 0 0 0 (⟨#[]⟩ : ByteArray) y304 (l0.take ((ji6) : Int).toNat)) else (none)) else (none)) = some r := by first | (rw [hji6] at H; exact H) | (simp only [hji6] at H ⊢; exact H)
 have hji6w : (IntKind.i64.wrap (a1 - 1)) = ji6 := (i64_w _).trans hji6
 by_cases c7 : 0 ≤ (ji6)
 rotate_left
 ·rw [if_neg c7] at H
  exact absurd H (by simp)
 rw [if_pos c7] at H
 have c7b0 := eq_true c7
 have c7b1 : decide (0 ≤ (ji6)) = true := decide_eq_true c7
 clear c7
 by_cases c8 : (ji6) ≤ (l0.length : Int)
 rotate_left
 ·rw [if_neg c8] at H
  exact absurd H (by simp)
 rw [if_pos c8] at H
 have c8b0 := eq_true c8
 have c8b1 : decide ((ji6) ≤ (l0.length : Int)) = true := decide_eq_true c8
 clear c8
 have H' := Aside0.mk H
 clear H
 go_enter Try.func38, Try.ntmps38
 try go_wp2
 replace HB := as_ (below_drew1 HB.out)
 obtain ⟨i010, hi010, _, hsz10, _⟩ := info_parts info9
 obtain ⟨hcut10, hA10, hC10⟩ := print_take_of (P := Try.prog) Value.string (⟨#[]⟩ : ByteArray) 22 9 .i64 Try.underlying22 hi010 hsz10 A0 c0 l0 (ji6) (of_decide_eq_true aM) (of_decide_eq_true aM) HC0.out
 have HR307 := as_ (Kd.C_of_reads (h1 := fun _ => rfl) (hA10 _ (Kd.reads_of_C HR0.out)))
 have HC307 := Aside0.mk hC10
 clear hA10 hC10 hi010 hsz10
 obtain ⟨yc10, hyc10⟩ : ∃ y_ : List ByteArray, y_ = l0.take ((ji6) : Int).toNat := ⟨_, rfl⟩
 rw [← hyc10] at hcut10 HR307 HC307 H'
 have Nyc10 := Aside0.mk hyc10
 clear hyc10
 refine start_ (n := 9) (S := fun w' => True) (ds := []) #[ff, ff, ff, ff, ff, ff, ff, ff, ff] (by kernel_rfl) rfl rfl trivial (fun hHeld => ?_); refine with_tabW level_fits.tab1 level_fits.bits1 (fun HT_ HW_ => ?_)
 generalize w.drew = w9 at HB HR307 hHeld ⊢
 refine pure_ (i := 0) (N := some 9) (v := ?_) (a' := ?_) #[tt, ff, ff, ff, ff, ff, ff, ff, ff] rfl rfl (any_of HT_.out (by kernel_rfl)) (fun _ _ _ h => h) (Or.inl ⟨by rfl, ?_⟩) ?_ ?_
 rotate_left
 ·intro w'
  go_simp
  with_reducible rfl
 rotate_left
 ·exact aP
 refine pure_ (i := 2) (N := some 11) (v := ?_) (a' := ?_) #[tt, ff, tt, ff, ff, ff, ff, ff, ff] rfl rfl (any_of HT_.out (by kernel_rfl)) (fun _ _ _ h => h) (Or.inl ⟨by rfl, ?_⟩) ?_ ?_
 rotate_left
 ·intro w'
  go_simp
  with_reducible rfl
 rotate_left
 ·exact aP
 refine pure_ (i := 3) (N := some 12) (v := ?_) (a' := ?_) #[tt, ff, tt, tt, ff, ff, ff, ff, ff] rfl rfl (any_of HT_.out (by kernel_rfl)) (fun _ _ _ h => h) (Or.inl ⟨by rfl, ?_⟩) ?_ ?_
 rotate_left
 ·intro w'
  go_simp
  with_reducible rfl
 rotate_left
 ·exact aP
 refine pure_ (i := 4) (N := some 13) (v := ?_) (a' := ?_) #[tt, ff, tt, tt, tt, ff, ff, ff, ff] rfl rfl (any_of HT_.out (by kernel_rfl)) (fun _ _ _ h => h) (Or.inl ⟨by rfl, ?_⟩) ?_ ?_
 rotate_left
 ·intro w'
  go_simp
  with_reducible rfl
 rotate_left
 ·exact aP
 refine pure_ (i := 5) (N := some 14) (v := ?_) (a' := ?_) #[tt, ff, tt, tt, tt, tt, ff, ff, ff] rfl rfl (any_of HT_.out (by kernel_rfl)) (fun _ _ _ h => h) (Or.inl ⟨by rfl, ?_⟩) ?_ ?_
 rotate_left
 ·intro w'
  go_simp
  with_reducible rfl
 rotate_left
 ·exact aP
 refine join_ (σ := Value × Nat) 1 #[tt, tt, tt, tt, tt, tt, tt, tt, ff] (fun s_ => [(10, s_.1), (7, .pointer (some ⟨s_.2, 0, none⟩)), (15, .agg #[.int .i64 0, .int .i64 0, .int .i64 0, .string (⟨#[]⟩ : ByteArray), s_.1, .slice A0 yc10.length c0])]) (fun s_ w' => (Kd.R (Kd.int .i64) 3 w' w.heap.size (fun _ => True) s_.1 y304) ∧ (w'.heap[s_.2]? = some (.cells #[.int .i64 0, .int .i64 0, .int .i64 0, .string (⟨#[]⟩ : ByteArray), .slice none 0 0, .slice none 0 0] 50 (0, 0))) ∧ (w.heap.size ≤ s_.2) ∧ (w.heap.size ≤ s_.2) ∧ (Below w.heap.size w w')) ?_ ?_
 rotate_left
 ·intro hCont
  refine two_ (i := 1) (j := 7) (Ni := some 10) (Nj := some 7) #[tt, tt, tt, tt, tt, tt, ff, ff, ff] #[tt, ff, tt, tt, tt, tt, ff, tt, ff] rfl rfl rfl rfl (two_of HT_.out (by kernel_rfl)) (by decide) (by decide) (fun K hK => ?_) (fun K hK => ?_)
  ·skip
   refine Kd.R_make_step (Kd.int .i64) _ 3 (by rfl) (N := 10) rfl 27 _ _ rfl a1 rfl rfl Try.underlying27 (.int .i64 0) 8 info3 rfl (by decide) (by omega) 0 (ok := fun _ => True) (okp := fun _ => True) rfl (fun _ hk => hk) trivial (of_decide_eq_true aM) (Nat.le_trans (Nat.mul_le_mul_right _ (of_decide_eq_true aM : a1.toNat ≤ 35184372088832)) (by omega)) (Below.refl _ _) (Nat.le_refl _) ?_
   intro v305 w11 ho12 hb hg_ hnew_
   clear hg_ hnew_
   (first | rw [← Ny304.out] at ho12 | (simp only [Int.reduceToNat] at ho12; rw [← Ny304.out] at ho12))
   have HO306 := as_ (Kd.R_lower ho12 (below_size bA))
   replace HB := as_ (below_step bA hb)
   clear hb ho12
   obtain ⟨Ao13, co13, eo13⟩ := Kd.R_slice HO306.out
   (first | subst eo13 | (injection eo13 with f1_ f2_ f3_; have f4_ := f1_.symm; have f5_ := f3_.symm; clear f1_ f2_ f3_; subst f4_; subst f5_))
   refine hK.out _ _ trivial (fun hHeld => ?_)
   clear hK K
   refine norm_ (a' := ?_) ?_ ?_
   rotate_left
   ·show Act.put _ (some 10) _ = _
    simp only [Act.put, List.setIfInBounds_toArray, List.set_cons_zero, List.set_cons_succ, i64_w, i32_w]
    rfl
   refine pure_ (i := 6) (N := some 15) (v := ?_) (a' := ?_) #[tt, tt, tt, tt, tt, tt, tt, ff, ff] rfl rfl (any_of HT_.out (by kernel_rfl)) (fun _ _ _ h => h) (Or.inl ⟨by rfl, ?_⟩) ?_ ?_
   rotate_left
   ·intro w'
    go_simp
    with_reducible rfl
   rotate_left
   ·exact aP
   refine one_ (i := 7) (N := some 7) #[tt, tt, tt, tt, tt, tt, tt, tt, ff] rfl rfl (one_of HT_.out (by kernel_rfl)) (by decide) (fun K hK => ?_)
   refine box_step ?hg (N := 7) ?hd (cs := #[.int .i64 0, .int .i64 0, .int .i64 0, .string (⟨#[]⟩ : ByteArray), .slice none 0 0, .slice none 0 0]) (t := 50) ?hr ?_; (case hd => rfl); (case hg => rfl); (case hr => first | (go_simp; done) | (go_simp; rfl))
   intro gb308 hg w14 hbox hb
   have BK308 := as_ (hbox)
   have GW308 := gw hg bA
   have GE308 := gw hg bA
   replace HO306 := as_ (Kd.R_below (by (with_reducible repeat (first | apply Kd.R_alloc | apply Kd.R_drewN | apply Kd.R_drew)); exact HO306.out) hb)
   replace HB := as_ (below_step bA hb)
   clear hb hbox hg
   refine hK.out _ _ trivial (fun hHeld => ?_)
   clear hK K
   refine norm_ (a' := ?_) ?_ ?_
   rotate_left
   ·show Act.put _ (some 7) _ = _
    simp only [Act.put, List.setIfInBounds_toArray, List.set_cons_zero, List.set_cons_succ, i64_w, i32_w]
    rfl
   exact norm_ (by simp only [putAll, Act.put, List.setIfInBounds_toArray, List.set_cons_zero, List.set_cons_succ]) (hCont (.slice Ao13 y304.length co13, gb308) _ ⟨(by (with_reducible repeat (first | apply Kd.R_alloc | apply Kd.R_drewN | apply Kd.R_drew)); exact HO306.out), (bk BK308), GW308.out, GE308.out, bA⟩)
  ·skip
   refine box_step ?hg (N := 7) ?hd (cs := #[.int .i64 0, .int .i64 0, .int .i64 0, .string (⟨#[]⟩ : ByteArray), .slice none 0 0, .slice none 0 0]) (t := 50) ?hr ?_; (case hd => rfl); (case hg => rfl); (case hr => first | (go_simp; done) | (go_simp; rfl))
   intro gb308 hg w11 hbox hb
   have BK308 := as_ (hbox)
   have GW308 := gw hg bA
   have GE308 := gw hg bA
   replace HB := as_ (below_step bA hb)
   clear hb hbox hg
   refine hK.out _ _ trivial (fun hHeld => ?_)
   clear hK K
   refine norm_ (a' := ?_) ?_ ?_
   rotate_left
   ·show Act.put _ (some 7) _ = _
    simp only [Act.put, List.setIfInBounds_toArray, List.set_cons_zero, List.set_cons_succ, i64_w, i32_w]
    rfl
   refine one_ (i := 1) (N := some 10) #[tt, tt, tt, tt, tt, tt, ff, tt, ff] rfl rfl (one_of HT_.out (by kernel_rfl)) (by decide) (fun K hK => ?_)
   refine Kd.R_make_step (Kd.int .i64) _ 3 (by rfl) (N := 10) rfl 27 _ _ rfl a1 rfl rfl Try.underlying27 (.int .i64 0) 8 info3 rfl (by decide) (by omega) 0 (ok := fun _ => True) (okp := fun _ => True) rfl (fun _ hk => hk) trivial (of_decide_eq_true aM) (Nat.le_trans (Nat.mul_le_mul_right _ (of_decide_eq_true aM : a1.toNat ≤ 35184372088832)) (by omega)) (Below.refl _ _) (Nat.le_refl _) ?_
   intro v305 w12 ho13 hb hg_ hnew_
   clear hg_ hnew_
   (first | rw [← Ny304.out] at ho13 | (simp only [Int.reduceToNat] at ho13; rw [← Ny304.out] at ho13))
   have HO306 := as_ (Kd.R_lower ho13 (below_size bA))
   replace BK308 := as_ (blk_below (g := gb308) (o := .cells #[.int .i64 0, .int .i64 0, .int .i64 0, .string (⟨#[]⟩ : ByteArray), .slice none 0 0, .slice none 0 0] 50 (0, 0)) (bk BK308) hb)
   replace HB := as_ (below_step bA hb)
   clear hb ho13
   obtain ⟨Ao14, co14, eo14⟩ := Kd.R_slice HO306.out
   (first | subst eo14 | (injection eo14 with f1_ f2_ f3_; have f4_ := f1_.symm; have f5_ := f3_.symm; clear f1_ f2_ f3_; subst f4_; subst f5_))
   refine hK.out _ _ trivial (fun hHeld => ?_)
   clear hK K
   refine norm_ (a' := ?_) ?_ ?_
   rotate_left
   ·show Act.put _ (some 10) _ = _
    simp only [Act.put, List.setIfInBounds_toArray, List.set_cons_zero, List.set_cons_succ, i64_w, i32_w]
    rfl
   refine pure_ (i := 6) (N := some 15) (v := ?_) (a' := ?_) #[tt, tt, tt, tt, tt, tt, tt, tt, ff] rfl rfl (any_of HT_.out (by kernel_rfl)) (fun _ _ _ h => h) (Or.inl ⟨by rfl, ?_⟩) ?_ ?_
   rotate_left
   ·intro w'
    go_simp
    with_reducible rfl
   rotate_left
   ·exact aP
   exact norm_ (by simp only [putAll, Act.put, List.setIfInBounds_toArray, List.set_cons_zero, List.set_cons_succ]) (hCont (.slice Ao14 y304.length co14, gb308) _ ⟨(by (with_reducible repeat (first | apply Kd.R_alloc | apply Kd.R_drewN | apply Kd.R_drew)); exact HO306.out), (bk BK308), GW308.out, GE308.out, bA⟩)
 rintro ⟨v305, gb308⟩ w15 ⟨h0_, h1_, h2_, h3_, h4_⟩
 have n0_ : Aside0 (Kd.R (Kd.int .i64) 3 w15 w.heap.size (fun _ => True) v305 y304) := ⟨h0_⟩
 have n1_ : Aside0 (w15.heap[gb308]? = some (.cells #[.int .i64 0, .int .i64 0, .int .i64 0, .string (⟨#[]⟩ : ByteArray), .slice none 0 0, .slice none 0 0] 50 (0, 0))) := ⟨h1_⟩
 have n2_ : Aside0 (w.heap.size ≤ gb308) := ⟨h2_⟩
 have n3_ : Aside0 (w.heap.size ≤ gb308) := ⟨h3_⟩
 have n4_ : Aside0 (Below w.heap.size w w15) := ⟨h4_⟩
 clear HB
 clear h0_ h1_ h2_ h3_ h4_
 have HO306 := n0_
 have BK308 := n1_
 have GW308 := n2_
 have GE308 := n3_
 have HB := n4_
 clear n0_ n1_ n2_ n3_ n4_
 have hHeld := trivial
 obtain ⟨Ao16, co16, eo16⟩ := Kd.R_slice HO306.out
 (first | subst eo16 | (injection eo16 with f1_ f2_ f3_; have f4_ := f1_.symm; have f5_ := f3_.symm; clear f1_ f2_ f3_; subst f4_; subst f5_))
 refine norm_ (a' := ?_) ?_ ?_
 rotate_left
 ·simp only [putAll, Act.put, List.setIfInBounds_toArray, List.set_cons_zero, List.set_cons_succ]
  rfl
 refine one_ (i := 8) (N := none) #[tt, tt, tt, tt, tt, tt, tt, tt, tt] rfl rfl (one_of HT_.out (by kernel_rfl)) (by decide) (fun K hK => ?_)
 have hs17 : w15.cell? ⟨gb308, 0, none⟩ = some (.int .i64 0) := (blk_cell BK308.out 0).trans rfl
 have hfs17 := blk_frozen BK308.out 0
 have hs18 : w15.cell? ⟨gb308, 1, none⟩ = some (.int .i64 0) := (blk_cell BK308.out 1).trans rfl
 have hfs18 := blk_frozen BK308.out 1
 have hs19 : w15.cell? ⟨gb308, 2, none⟩ = some (.int .i64 0) := (blk_cell BK308.out 2).trans rfl
 have hfs19 := blk_frozen BK308.out 2
 have hs20 : w15.cell? ⟨gb308, 3, none⟩ = some (.string (⟨#[]⟩ : ByteArray)) := (blk_cell BK308.out 3).trans rfl
 have hfs20 := blk_frozen BK308.out 3
 have hs21 : w15.cell? ⟨gb308, 4, none⟩ = some (.slice none 0 0) := (blk_cell BK308.out 4).trans rfl
 have hfs21 := blk_frozen BK308.out 4
 have hs22 : w15.cell? ⟨gb308, 5, none⟩ = some (.slice none 0 0) := (blk_cell BK308.out 5).trans rfl
 have hfs22 := blk_frozen BK308.out 5
 refine skip_ (w1 := ?_) (by rfl) rfl ?_ ?_
 rotate_left
 ·go_simp
  rfl
 refine hK.out _ _ trivial (fun hHeld => ?_)
 clear hK K
 refine done_ (done_of HT_.out (by kernel_rfl)) ?_
 obtain ⟨hcz23_0, hcz23_1, hcz23_2, hcz23_3, hcz23_4, hcz23_5⟩ := zc6 BK308
 obtain ⟨hfz23_0, hfz23_1, hfz23_2, hfz23_3, hfz23_4, hfz23_5⟩ := zf6 BK308
 try go_wp2
 go_loopg [19] k (fun kq v19 w' => ∃ (x19_1 : Int) (x309004_1 : List Int) (u309004 : Value), v19 = .int .i64 x19_1 ∧ Aside0 (level_fits.l0 kq l0 a1 a2 (y304.length : Int) x19_1 0 0 0 (⟨#[]⟩ : ByteArray) x309004_1 yc10 = some r) ∧ Aside0 (kq ≤ k) ∧ Aside0 (Kd.R (Kd.int .i64) 3 w' w.heap.size (fun _ => True) u309004 x309004_1) ∧ Aside0 (w'.heap[gb308]? = some (.cells #[.int .i64 0, .int .i64 0, .int .i64 0, .string (⟨#[]⟩ : ByteArray), u309004, .slice A0 yc10.length c0] 50 (0, 0))) ∧ Aside0 (Below w.heap.size w w'))
 case atStart => exact ⟨(0), (y304), (.slice Ao16 y304.length co16), (by first | rfl | (simp; done) | (simp [*]; done)), H', ⟨Nat.le_refl _⟩, ⟨by (with_reducible repeat (first | apply Kd.R_alloc | apply Kd.R_drewN | apply Kd.R_drew)); exact Kd.R_mono (Kd.R_far (p := ⟨gb308, 5, none⟩) (Kd.R_far (p := ⟨gb308, 4, none⟩) (Kd.R_far (p := ⟨gb308, 3, none⟩) (Kd.R_far (p := ⟨gb308, 2, none⟩) (Kd.R_far (p := ⟨gb308, 1, none⟩) (Kd.R_far (p := ⟨gb308, 0, none⟩) (Kd.R_types HO306.out BK308.out (by decide)) (fun _ hk => hk.2) (.int .i64 0)) (fun _ hk => hk.2) (.int .i64 0)) (fun _ hk => hk.2) (.int .i64 0)) (fun _ hk => hk.2) (.string (⟨#[]⟩ : ByteArray))) (fun _ hk => hk.2) (.slice Ao16 y304.length co16)) (fun _ hk => hk.2) (.slice A0 yc10.length c0)) (fun _ hk => trivial)⟩, ⟨by refine bx ?_; refine blk_put (cs := #[.int .i64 0, .int .i64 0, .int .i64 0, .string (⟨#[]⟩ : ByteArray), .slice Ao16 y304.length co16, .slice none 0 0]) ?_ 5 _ rfl; refine bx ?_; refine blk_put (cs := #[.int .i64 0, .int .i64 0, .int .i64 0, .string (⟨#[]⟩ : ByteArray), .slice none 0 0, .slice none 0 0]) ?_ 4 _ rfl; refine bx ?_; refine blk_put (cs := #[.int .i64 0, .int .i64 0, .int .i64 0, .string (⟨#[]⟩ : ByteArray), .slice none 0 0, .slice none 0 0]) ?_ 3 _ rfl; refine bx ?_; refine blk_put (cs := #[.int .i64 0, .int .i64 0, .int .i64 0, .string (⟨#[]⟩ : ByteArray), .slice none 0 0, .slice none 0 0]) ?_ 2 _ rfl; refine bx ?_; refine blk_put (cs := #[.int .i64 0, .int .i64 0, .int .i64 0, .string (⟨#[]⟩ : ByteArray), .slice none 0 0, .slice none 0 0]) ?_ 1 _ rfl; refine bx ?_; refine blk_put (cs := #[.int .i64 0, .int .i64 0, .int .i64 0, .string (⟨#[]⟩ : ByteArray), .slice none 0 0, .slice none 0 0]) ?_ 0 _ rfl; refine bx ?_; exact BK308.out⟩, ⟨by repeat (first | (with_reducible first | exact HB.out | apply below_alloc | apply pw_below_drewN | apply below_drew1 | refine below_set ?_ GE308.out) | exact HB.out)⟩⟩
 case round =>
  clear H'
  try clear p2
  try clear c3
  try clear c4
  try clear c4b0
  try clear c4b1
  try clear c5
  try clear c5b0
  try clear c5b1
  try clear p6
  try clear c7
  try clear c7b0
  try clear c7b1
  try clear c8
  try clear c8b0
  try clear c8b1
  try clear hcz23_0
  try clear hcz23_1
  try clear hcz23_2
  try clear hcz23_3
  try clear hcz23_4
  try clear hcz23_5
  try clear hfz23_0
  try clear hfz23_1
  try clear hfz23_2
  try clear hfz23_3
  try clear hfz23_4
  try clear hfz23_5
  obtain ⟨x19_1, x309004_1, u309004, rfl, HA, HK1, HO_309004, BK308, HB⟩ := hrel
  cases gk with
  | zero => exact absurd HA.out (by simp [level_fits.l0])
  | succ k1 =>
   have H := HA.out
   clear HA
   simp only [level_fits.l0] at H
   by_cases c24 : x19_1 < (y304.length : Int)
   ·rw [if_pos c24] at H
    have c24b0 : decide (x19_1 < (y304.length : Int)) = true := decide_eq_true c24
    clear c24
    by_cases c25 : 0 ≤ x19_1
    rotate_left
    ·rw [if_neg c25] at H
     exact absurd H (by simp)
    rw [if_pos c25] at H
    have c25b0 : decide (0 ≤ x19_1) = true := decide_eq_true c25
    clear c25
    by_cases c26 : x19_1 < (x309004_1.length : Int)
    rotate_left
    ·rw [if_neg c26] at H
     exact absurd H (by simp)
    rw [if_pos c26] at H
    have c26b0 : decide (x19_1 < (x309004_1.length : Int)) = true := decide_eq_true c26
    clear c26
    obtain ⟨y309, hy309⟩ : ∃ y_ : List Int, y_ = (x309004_1.set (x19_1 : Int).toNat 1) := ⟨_, rfl⟩
    replace H : (level_fits.l0 k1 l0 a1 a2 (y304.length : Int) (wrap64 (x19_1 + 1)) 0 0 0 (⟨#[]⟩ : ByteArray) y309 yc10) = some r := by first | (rw [hy309]; with_reducible exact H) | (have H2_ := (Option.bind_some _ _).symm.trans H; rw [hy309]; with_reducible exact H2_) | (have H2_ := (Option.bind_some _ _).symm.trans H; with_reducible exact H2_) | with_reducible exact H | (rw [hy309]; exact H) | exact H
    have Ny309 := Aside0.mk hy309
    clear hy309
    have H' := Aside0.mk H
    clear H
    obtain ⟨hcz28_0, hcz28_1, hcz28_2, hcz28_3, hcz28_4, hcz28_5⟩ := zc6 BK308
    obtain ⟨hfz28_0, hfz28_1, hfz28_2, hfz28_3, hfz28_4, hfz28_5⟩ := zf6 BK308
    have p27 : 0 ≤ (x19_1 : Int) := of_decide_eq_true aM
    have q27 : (x19_1 : Int) < ((x309004_1.length : Int) : Int) := of_decide_eq_true aM
    obtain ⟨go27, co27, eo27, gb27, gl27, cl27, HG27⟩ := Kd.R_form HO_309004.out (by omega)
    (first | cases eo27 | (injection eo27 with ea_ en_ ec_; (first | subst ea_ | (injection ea_ with ea_; subst ea_)); subst ec_; clear en_))
    have GB27 := Aside0.mk gb27
    have GG27 := Aside0.mk HG27
    clear gb27 gl27 HG27
    obtain ⟨hx27_0, hf27_0⟩ := Kd.R_celln 0 HO_309004.out (x19_1 : Int) p27 q27
    replace p27 := eq_true p27
    replace q27 := eq_true q27
    have HP29 := Kd.R_putg HO_309004.out (x19_1 : Int) 1
    go_wp2_with (first | ((with_reducible refine gate_store (t := 3) (p := 25) rfl ?_); refine store_event (t := 3) (p := 25) (v := ?vo_w30) (w1 := (wr.setCell ⟨go27, (x19_1 : Int).toNat, none⟩ (.int .i64 1))) ?hg ?ho ?hn ?hr ?_; (case ho => rfl); (case hg => rfl); (case hn => rfl); (case hr => first | (go_simp; done) | (go_simp; rfl)); intro w30 hw; have hg : wr.grownBy w30 (some go27) := (by rw [hw]; exact HP29.2); have hp_ : Kd.R (Kd.int .i64) 3 w30 w.heap.size (fun _ => True) (.slice (some ⟨go27, 0, none⟩) x309004_1.length co27) y309 := (by rw [hw, Ny309.out]; exact HP29.1); clear HP29; replace BK308 := as_ (blk_grown (g := gb308) (o := .cells #[.int .i64 0, .int .i64 0, .int .i64 0, .string (⟨#[]⟩ : ByteArray), .slice (some ⟨go27, 0, none⟩) x309004_1.length co27, .slice A0 yc10.length c0] 50 (0, 0)) (bk BK308) hg (Kd.R_ne HO_309004.out BK308.out (by decide))); replace HO_309004 := as_ (hp_); replace HB := as_ ((by rw [hw]; exact below_set (HB.out) GB27.out : Below w.heap.size w w30)); clear hg hw hp_))
    go_roundg k1
    case measure => have := HK1.out; omega
    case rel => exact ⟨(wrap64 (x19_1 + 1)), (y309), (.slice (some ⟨go27, 0, none⟩) x309004_1.length co27), (by first | rfl | (simp; done) | (simp [*]; done)), H', ⟨by have := HK1.out; omega⟩, ⟨by (with_reducible repeat (first | apply Kd.R_alloc | apply Kd.R_drewN | apply Kd.R_drew)); exact HO_309004.out⟩, ⟨by refine bx ?_; exact BK308.out⟩, ⟨by repeat (first | (with_reducible first | exact HB.out | apply below_alloc | apply pw_below_drewN | apply below_drew1 | refine below_set ?_ GE308.out) | exact HB.out)⟩⟩
   rw [if_neg c24] at H
   have c24b0 : decide (x19_1 < (y304.length : Int)) = false := decide_eq_false c24
   clear c24
   by_cases c31 : a1 ≤ (l0.length : Int)
   rotate_left
   ·rw [if_neg c31] at H
    have c31b0 : decide (a1 ≤ (l0.length : Int)) = false := decide_eq_false c31
    clear c31
    replace H := bM H
    obtain ⟨t312, A390, H⟩ := H
    replace H : (some (decide (t312 ≤ (wrap64 (a2 - 16))))) = some r := H
    have A39 := Aside0.mk A390
    clear A390
    obtain rfl := Option.some.inj H
    obtain ⟨hcz40_0, hcz40_1, hcz40_2, hcz40_3, hcz40_4, hcz40_5⟩ := zc6 BK308
    obtain ⟨hfz40_0, hfz40_1, hfz40_2, hfz40_3, hfz40_4, hfz40_5⟩ := zf6 BK308
    obtain ⟨Ao41, co41, eo41⟩ := Kd.R_slice HO_309004.out
    subst eo41
    go_wp2_with (first | ((with_reducible refine gate_callee (f := 46) rfl ?_); refine goesL_ (some 38) rfl rfl Try.func46 (by kernel_rfl) rfl #[.agg #[.int .i64 0, .int .i64 0, .int .i64 0, .string (⟨#[]⟩ : ByteArray), .slice Ao41 x309004_1.length co41, .slice A0 yc10.length c0]] rfl (by (try simp only [List.map_toArray, List.map_cons, List.map_nil]); first | done | (rw [show yc10.length = (ji6).toNat from (by rw [List.length_take]; have h_ : ((ji6) : Int) ≤ (l0.length : Int) := of_decide_eq_true aM; omega)] <;> rfl) | (simp only [hji6]; rfl) | rfl | (simp only [List.length_drop, List.length_take]; rfl)) ?_; (with_reducible refine (inner_Size.calls k1 0 0 0 (⟨#[]⟩ : ByteArray) _ _ x309004_1 _ _ yc10 t312 _ ?side1 ?side2 ?side3 ?side4 A39.out).mono ?_); (case side1 => repeat (first | exact (Kd.R_reads' HO_309004.out).2.2 | (with_reducible refine Kd.C_alloc ?_ _) | (with_reducible refine Kd.C_drewN ?_ _) | (with_reducible refine Kd.C_drew ?_))); (case side2 => exact (Kd.R_reads' HO_309004.out).2.1); (case side3 => repeat (first | exact (Kd.C_below HR307.out HB.out) | (with_reducible refine Kd.C_alloc ?_ _) | (with_reducible refine Kd.C_drewN ?_ _) | (with_reducible refine Kd.C_drew ?_))); (case side4 => exact HC307.out); rintro e w42 ⟨rfl, hb⟩; refine ⟨_, rfl, ?_⟩; replace HO_309004 := as_ (Kd.R_below (by (with_reducible repeat (first | apply Kd.R_alloc | apply Kd.R_drewN | apply Kd.R_drew)); exact HO_309004.out) hb); replace BK308 := as_ (blk_below (g := gb308) (o := .cells #[.int .i64 0, .int .i64 0, .int .i64 0, .string (⟨#[]⟩ : ByteArray), .slice Ao41 x309004_1.length co41, .slice A0 yc10.length c0] 50 (0, 0)) (bk BK308) hb); replace HB := as_ (below_step bA hb); (try clear hb); (try clear hb2); (try clear hk); (try clear hi)))
    go_ret
    exact ⟨by first | rfl | (simp [errW_none, errW_some] <;> rfl) | (simp only [← hji6]; first | rfl | (simp [errW_none, errW_some] <;> rfl)) | (simp [*, errW_none, errW_some] <;> rfl), by repeat (first | (with_reducible first | exact HB.out | apply below_alloc | apply pw_below_drewN | apply below_drew1 | refine below_set ?_ GE308.out) | exact HB.out)⟩
   rw [if_pos c31] at H
   have c31b0 : decide (a1 ≤ (l0.length : Int)) = true := decide_eq_true c31
   clear c31
   obtain ⟨ji32, hji32⟩ : ∃ j_ : Int, (wrap64 (a1 - 1)) = j_ := ⟨_, rfl⟩
   (try clear hji6w)
   (try clear hji6)
   replace H : (if 0 ≤ (ji32) then (if (ji32) < (l0.length : Int) then ((inner_Size.f k1 0 0 0 (rdOf ByteArray.empty l0 (ji32)) x309004_1 yc10).bind fun t311 => (some (decide (t311 ≤ (wrap64 (a2 - 16)))))) else (none)) else (none)) = some r := by first | (rw [hji32] at H; exact H) | (simp only [hji32] at H ⊢; exact H)
   have hji32w : (IntKind.i64.wrap (a1 - 1)) = ji32 := (i64_w _).trans hji32
   by_cases c33 : 0 ≤ (ji32)
   rotate_left
   ·rw [if_neg c33] at H
    exact absurd H (by simp)
   rw [if_pos c33] at H
   have c33b0 : decide (0 ≤ (ji32)) = true := decide_eq_true c33
   clear c33
   by_cases c34 : (ji32) < (l0.length : Int)
   rotate_left
   ·rw [if_neg c34] at H
    exact absurd H (by simp)
   rw [if_pos c34] at H
   have c34b0 : decide ((ji32) < (l0.length : Int)) = true := decide_eq_true c34
   clear c34
   replace H := bM H
   obtain ⟨t311, A350, H⟩ := H
   replace H : (some (decide (t311 ≤ (wrap64 (a2 - 16))))) = some r := H
   have A35 := Aside0.mk A350
   clear A350
   obtain rfl := Option.some.inj H
   have p310 : 0 ≤ ((ji32) : Int) := of_decide_eq_true aM
   have q310 : (ji32) < (l0.length : Int) := of_decide_eq_true aM
   obtain ⟨ad310, e310, hx310_0⟩ := Kd.at_string HR0.out (ji32) p310 q310
   cases e310
   replace hx310_0 := (HB.out.cell (World.block_lt_of_cell? w _ hx310_0)).trans hx310_0
   replace p310 := eq_true p310
   replace q310 := eq_true q310
   obtain ⟨hcz36_0, hcz36_1, hcz36_2, hcz36_3, hcz36_4, hcz36_5⟩ := zc6 BK308
   obtain ⟨hfz36_0, hfz36_1, hfz36_2, hfz36_3, hfz36_4, hfz36_5⟩ := zf6 BK308
   obtain ⟨Ao37, co37, eo37⟩ := Kd.R_slice HO_309004.out
   subst eo37
   go_wp2_with (first | ((with_reducible refine gate_callee (f := 46) rfl ?_); refine goesL_ (some 38) rfl rfl Try.func46 (by kernel_rfl) rfl #[.agg #[.int .i64 0, .int .i64 0, .int .i64 0, .string (rdOf ByteArray.empty l0 (ji32)), .slice Ao37 x309004_1.length co37, .slice (some ad310) yc10.length c0]] rfl (by (try simp only [List.map_toArray, List.map_cons, List.map_nil]); first | done | (rw [show yc10.length = (ji6).toNat from (by rw [List.length_take]; have h_ : ((ji6) : Int) ≤ (l0.length : Int) := of_decide_eq_true aM; omega)] <;> rfl) | (simp only [hji32, hji6]; rfl) | rfl | (simp only [List.length_drop, List.length_take]; rfl)) ?_; (with_reducible refine (inner_Size.calls k1 0 0 0 (rdOf ByteArray.empty l0 (ji32)) _ _ x309004_1 _ _ yc10 t311 _ ?side1 ?side2 ?side3 ?side4 A35.out).mono ?_); (case side1 => refine (Kd.R_reads' (e := 3) (base := w.heap.size) (ok := fun k_ => True) (n := x309004_1.length) (c := co37) ?_).2.2; exact (by (with_reducible repeat (first | apply Kd.R_alloc | apply Kd.R_drewN | apply Kd.R_drew)); exact (Kd.R_mono (Kd.R_far (p := ⟨gb308, 3, none⟩) (Kd.R_types HO_309004.out BK308.out (by decide)) (fun _ hk => hk.2) (.string (rdOf ByteArray.empty l0 (ji32)))) (fun _ h_ => h_.1)))); (case side2 => exact (Kd.R_reads' HO_309004.out).2.1); (case side3 => exact Kd.C_below HR307.out bA); (case side4 => exact HC307.out); rintro e w38 ⟨rfl, hb⟩; refine ⟨_, rfl, ?_⟩; replace HO_309004 := as_ (Kd.R_below (by (with_reducible repeat (first | apply Kd.R_alloc | apply Kd.R_drewN | apply Kd.R_drew)); exact (Kd.R_mono (Kd.R_far (p := ⟨gb308, 3, none⟩) (Kd.R_types HO_309004.out BK308.out (by decide)) (fun _ hk => hk.2) (.string (rdOf ByteArray.empty l0 (ji32)))) (fun _ h_ => h_.1))) hb); replace BK308 := as_ (blk_below (g := gb308) (o := .cells #[.int .i64 0, .int .i64 0, .int .i64 0, .string (rdOf ByteArray.empty l0 (ji32)), .slice Ao37 x309004_1.length co37, .slice (some ad310) yc10.length c0] 50 (0, 0)) (by refine bx ?_; refine blk_put (cs := #[.int .i64 0, .int .i64 0, .int .i64 0, .string (⟨#[]⟩ : ByteArray), .slice Ao37 x309004_1.length co37, .slice (some ad310) yc10.length c0]) ?_ 3 _ rfl; refine bx ?_; exact BK308.out) hb); replace HB := as_ (below_step bA hb); (try clear hb); (try clear hb2); (try clear hk); (try clear hi)))
   go_ret
   exact ⟨by first | rfl | (simp [errW_none, errW_some] <;> rfl) | (simp only [← hji6, ← hji32]; first | rfl | (simp [errW_none, errW_some] <;> rfl)) | (simp [*, errW_none, errW_some] <;> rfl), by repeat (first | (with_reducible first | exact HB.out | apply below_alloc | apply pw_below_drewN | apply below_drew1 | refine below_set ?_ GE308.out) | exact HB.out)⟩
/-! ### level_Group: function 16, by hand -/
section
open Go.Shelf Go.Proofs.YtfialmegikegbaaRange
attribute [local go_sem] Oper.semAt_some
mutual
def level_Group.l0 : Nat → List ByteArray → Int → List Int → Option (List Int)
 | 0, _, _, _ => none
 | k + 1, xs, p, acc => level_Group.l1 k xs p acc 1
def level_Group.l1 : Nat → List ByteArray → Int → List Int → Int → Option (List Int)
 | 0, _, _, _, _ => none
 | k + 1, xs, p, acc, n => if n ≤ (xs.length : Int) then (if n < 9223372036854775807 then ((level_fits.f k xs (n + 1) p).bind fun t => (if t = true then level_Group.l1 k xs p acc (n + 1) else level_Group.l2 k xs p acc n)) else none) else level_Group.l2 k xs p acc n
def level_Group.l2 : Nat → List ByteArray → Int → List Int → Int → Option (List Int)
 | 0, _, _, _, _ => none
 | k + 1, xs, p, acc, n => if acc.length < 17592186044416 then (if n > (xs.length : Int) then some (acc ++ [n]) else level_Group.l0 k (xs.drop n.toNat) p (acc ++ [n])) else none
end
def level_Group.f (k : Nat) (l0 : List ByteArray) (a1 : Int) : Option (List Int) := level_Group.l0 k l0 a1 []
theorem level_Group.mono_l : ∀ k, (∀ y0 y1 y2, LeO (level_Group.l0 k y0 y1 y2) (level_Group.l0 (k + 1) y0 y1 y2)) ∧ (∀ y0 y1 y2 y3, LeO (level_Group.l1 k y0 y1 y2 y3) (level_Group.l1 (k + 1) y0 y1 y2 y3)) ∧ (∀ y0 y1 y2 y3, LeO (level_Group.l2 k y0 y1 y2 y3) (level_Group.l2 (k + 1) y0 y1 y2 y3))
 | 0 => ⟨fun _ _ _ r h => by simp [level_Group.l0] at h, fun _ _ _ _ r h => by simp [level_Group.l1] at h, fun _ _ _ _ r h => by simp [level_Group.l2] at h⟩
 | k + 1 => by
  obtain ⟨ih0, ih1, ih2⟩ := level_Group.mono_l k
  refine ⟨fun y0 y1 y2 => ?_, fun y0 y1 y2 y3 => ?_, fun y0 y1 y2 y3 => ?_⟩
  all_goals
   first
   | unfold level_Group.l0
   | unfold level_Group.l1
   | unfold level_Group.l2
   repeat' first
   | (with_reducible exact ih0 _ _ _)
   | (with_reducible exact ih1 _ _ _ _)
   | (with_reducible exact ih2 _ _ _ _)
   | (with_reducible exact level_fits.mono _ _ _ _)
   | (with_reducible exact LeO.refl _)
   | (with_reducible exact LeO.none _)
   | (with_reducible refine LeO.ite ?_ ?_)
   | (with_reducible refine LeO.bind ?_ (fun _ => ?_))
theorem level_Group.mono : ∀ a0 a1 k, LeO (level_Group.f k a0 a1) (level_Group.f (k + 1) a0 a1) := fun a0 a1 k => (level_Group.mono_l k).1 _ _ _
/-- What lies in memory between two rounds: the boxes of the list made, of the texts left, of the page's size; the two blocks of the loop. -/
structure GroupAt (w : World) (rec : LoopRec) (p : Int) (wr : World) (A : Option Addr) (c : Nat) (xs : List ByteArray) (v : Value) (acc : List Int) : Prop where
 out : wr.heap[w.heap.size]? = some (.cells #[v] 27 (0, 0))
 own : wr.ownsRow (w.heap.size + 5) 3 1 v acc.length (acc.map (Value.int .i64))
 seps : wr.heap[w.heap.size + 1]? = some (.cells #[.slice A xs.length c] 22 (0, 0))
 pb : wr.heap[w.heap.size + 2]? = some (.cells #[.int .i64 p] 3 (0, 0))
 dd : wr.heap[w.heap.size + 3]? = some (.deferred (some []))
 lp : wr.heap[w.heap.size + 4]? = some (.loop (rec .ready none))
 rd : Kd.C Kd.string w A xs.length xs
 cap : xs.length ≤ c
 below : Below w.heap.size w wr
theorem row_below {W W1 : World} {b e s n : Nat} {v : Value} {xs : List Value} (h : W.ownsRow b e s v n xs) (hb : Below W.heap.size W W1) : W1.ownsRow b e s v n xs := by
 obtain ⟨h1, h2⟩ := h
 refine ⟨h1, ?_⟩
 rcases h2 with h2 | ⟨g, cap, cur, rfl, hg, hh, r⟩
 ·exact .inl h2
 ·exact .inr ⟨g, cap, cur, rfl, hg, blk_below hh hb, r⟩
theorem GroupAt.next {w : World} {rec : LoopRec} {p : Int} {wr wr' : World} {A : Option Addr} {c : Nat} {xs : List ByteArray} {v : Value} {acc : List Int} (h : GroupAt w rec p wr A c xs v acc) (hb : Below wr.heap.size wr wr') : GroupAt w rec p wr' A c xs v acc :=
 ⟨blk_below h.out hb, row_below h.own hb, blk_below h.seps hb, blk_below h.pb hb, blk_below h.dd hb, blk_below h.lp hb, h.rd, h.cap, below_step h.below hb⟩
theorem below_putObj {w W : World} {l : Nat} (o : Obj) (h : Below w.heap.size w W) (hl : w.heap.size ≤ l) : Below w.heap.size w (W.putObj l o) :=
 ⟨h.os, h.tape, h.output, by have := h.size; simpa using this, fun k hk => (World.putObj_heap_other (by omega)).trans (h.block k hk)⟩
theorem own_base5 {W : World} {b e s n : Nat} {v : Value} {xs : List Value} (h : W.ownsRow b e s v n xs) (k : Nat) (hk : k < b) : some k ≠ v.ownBlock := by
 rcases h.2 with ⟨rfl, _⟩ | ⟨g, cap, cur, rfl, hg, _⟩
 ·simp [Value.ownBlock]
 ·intro e'
  obtain rfl : k = g := by simpa [Value.ownBlock] using e'
  omega
def boxLen (B : Nat) (wr : World) : Nat := match wr.cell? ⟨B, 0, none⟩ with | some (.slice _ n _) => n | _ => 0
def intOf : Value → Nat | .int _ i => i.toNat | _ => 0
theorem GroupAt.boxLen {w : World} {rec : LoopRec} {p : Int} {wr : World} {A : Option Addr} {c : Nat} {xs : List ByteArray} {v : Value} {acc : List Int} (h : GroupAt w rec p wr A c xs v acc) : boxLen (w.heap.size + 1) wr = xs.length := by
 have := blk_cell h.seps 0
 simp at this
 simp [P.boxLen, this]
theorem level_pages.calls (A0 : Option Addr) (n0 c0 : Nat) (a1 : Int) (w : World) :
  Calls Try.prog 32 #[.slice A0 n0 c0, .int .i64 a1] w fun e w' => e = .returned (.func (.func 37) #[] #[.pointer (some ⟨w.heap.size, 0, none⟩), .pointer (some ⟨w.heap.size + 1, 0, none⟩)]) ∧ w' = (w.alloc (.cells #[.slice A0 n0 c0] 22)).alloc (.cells #[.int .i64 a1] 3) := by
 go_enter Try.func32, Try.ntmps32
 go_wp2
 go_ret
 exact ⟨rfl, rfl⟩
theorem Group_info : (Try.prog.info? 3).map (fun i => (i.zero, i.size, i.bytes)) = some (some (.int .i64 0), 1, 8) := by kernel_rfl
set_option maxHeartbeats 4000000 in
set_option maxRecDepth 100000 in
theorem level_Group.calls (k : Nat) (A0 : Option Addr) (c0 : Nat) (l0 : List ByteArray) (a1 : Int) (r : List Int) (w : World) (hr0 : Kd.C Kd.string w A0 l0.length l0) (hc0 : l0.length ≤ c0) (h : level_Group.f k l0 a1 = some r) :
  Calls Try.prog 16 #[.slice A0 l0.length c0, .int .i64 a1] w fun e w' => ∃ v0_ : Value, e = .returned (v0_) ∧ Kd.R (Kd.int .i64) 3 w' w.heap.size (fun _ => True) v0_ r ∧ Below w.heap.size w w' := by
 unfold level_Group.f at h
 refine (callsIn_wide (n := 9)).1 ?_
 refine callsIn_of_wp_marks Try.func16 rfl trivial ?_ rfl
 simp only [Try.ntmps16, List.size_toArray, List.length_cons, List.length_nil, Nat.reduceAdd, Nat.reduceSub, Array.replicate_succ, Array.replicate_zero, List.push_toArray, List.append_toArray, List.nil_append, List.cons_append]
 gi_wp2_with (refine ⟨trivial, ?_⟩; gi_at_call 32; refine (callsIn_wide.2 (level_pages.calls A0 _ c0 a1 _)).mono ?_; rintro e w' ⟨rfl, rfl⟩)
 obtain ⟨W0, hW0⟩ : ∃ W0, ((w.alloc (.cells #[.slice none 0 0] 27)).alloc (.cells #[.slice A0 l0.length c0] 22)).alloc (.cells #[.int .i64 a1] 3) = W0 := ⟨_, rfl⟩
 have hz : W0.heap.size = w.heap.size + 3 := by rw [← hW0]; simp
 have b0 : W0.heap[w.heap.size]? = some (.cells #[.slice none 0 0] 27 (0, 0)) := by rw [← hW0]; exact blk_alloc (blk_alloc (blk_new w _) _) _
 have b1 : W0.heap[w.heap.size + 1]? = some (.cells #[.slice A0 l0.length c0] 22 (0, 0)) := by
  rw [← hW0]; have := blk_new (w.alloc (.cells #[.slice none 0 0] 27)) (.cells #[.slice A0 l0.length c0] 22); rw [World.size_alloc] at this; exact blk_alloc this _
 have b2 : W0.heap[w.heap.size + 2]? = some (.cells #[.int .i64 a1] 3 (0, 0)) := by
  rw [← hW0]; have := blk_new ((w.alloc (.cells #[.slice none 0 0] 27)).alloc (.cells #[.slice A0 l0.length c0] 22)) (.cells #[.int .i64 a1] 3); rw [World.size_alloc, World.size_alloc] at this; exact this
 have bel0 : Below w.heap.size w W0 := by rw [← hW0]; exact below_alloc (below_alloc (below_alloc (Below.refl _ _) _) _) _
 (try simp only [World.size_alloc])
 rw [hW0]
 clear hW0
 refine rangeFunc_walk (gf := 37) (lb := #[.pointer (some ⟨w.heap.size + 1, 0, none⟩), .pointer (some ⟨w.heap.size + 2, 0, none⟩)]) rfl (by decide) rfl trivial (enters_of Try.func37 (by kernel_rfl) rfl) ?_
 intro rec hY
 rw [hz] at hY ⊢
 have hG0 : GroupAt w rec a1 ((W0.alloc (.deferred (some []))).alloc (.loop (rec .ready none))) A0 c0 l0 (.slice none 0 0) [] := by
  have n1 := blk_new W0 (.deferred (some []))
  have n2 := blk_new (W0.alloc (.deferred (some []))) (.loop (rec .ready none))
  rw [World.size_alloc, hz] at n2
  rw [hz] at n1
  exact ⟨blk_alloc (blk_alloc b0 _) _, World.ownsRow_nil _ _ _ _, blk_alloc (blk_alloc b1 _) _, blk_alloc (blk_alloc b2 _) _, blk_alloc n1 _, n2, hr0, hc0, below_alloc (below_alloc bel0 _) _⟩
 clear b0 b1 b2 bel0
 generalize (W0.alloc (.deferred (some []))).alloc (.loop (rec .ready none)) = W1 at hG0 ⊢
 have hYield : ∀ (wr : World) (A : Option Addr) (c : Nat) (xs : List ByteArray) (v : Value) (acc : List Int) (n : Int) (s : Value), GroupAt w rec a1 wr A c xs v acc → acc.length < 17592186044416 →
   YieldAt Fence.wide 7 Try.prog (w.heap.size + 4) #[.int .i64 n, s] wr fun e W' => e = .returned (.bool true) ∧ ∃ v', GroupAt w rec a1 W' A c xs v' (acc ++ [n]) := by
  intro wr A c xs v acc n s hG hlen
  refine hY wr _ _ rfl hG.lp ?_
  obtain ⟨i0, hi, hz0, hz1, hz2⟩ := info_parts Group_info
  simp only [List.zip_toArray, List.zip_cons_cons, List.zip_nil_right, List.zip_nil_left, List.foldl_toArray', List.foldl_cons, List.foldl_nil, List.setIfInBounds_toArray, List.set_cons_zero, List.set_cons_succ, List.size_toArray, List.length_cons, List.length_nil, Nat.reduceAdd]
  gi_wp2
  refine ⟨hG.lp, ?_⟩
  obtain ⟨W2, hW2⟩ : ∃ W2, wr.putObj (w.heap.size + 3 + 1) (.loop (rec .busy none)) = W2 := ⟨_, rfl⟩
  have o2 : ∀ k, k ≠ w.heap.size + 4 → W2.heap[k]? = wr.heap[k]? := fun k hk => by rw [← hW2]; exact World.putObj_heap_other (by omega)
  have l2 : W2.heap[w.heap.size + 4]? = some (.loop (rec .busy none)) := by rw [← hW2]; exact World.putObj_heap_same (blk_lt hG.lp)
  have row2 : W2.ownsRow (w.heap.size + 5) 3 1 v acc.length (acc.map (Value.int .i64)) := by rw [← hW2]; exact ownsRow_putObj hG.own _ hG.lp rfl
  have box2 : Boxed W2 w.heap.size 27 v := (o2 _ (by omega)).trans hG.out
  have bel2 : Below w.heap.size w W2 := by rw [← hW2]; exact below_putObj _ hG.below (by omega)
  have sz2 : w.heap.size + 5 ≤ W2.heap.size := by have := blk_lt l2; omega
  rw [hW2]
  have hc := box2.cell
  gi_wp2_with (gi_at_builtin; refine wpListIn_append_own _ rfl _ _ 27 rfl (w.heap.size + 5) 3 i0 (.int .i64 0) 1 8 Try.underlying27 hi hz0 hz1 hz2 rfl (by decide) _ _ _ rfl (row2.alloc _) ⟨W2.heap.size, 0, none⟩ 1 1 [.int .i64 n] rfl rfl (cell_one_new _ _ _) (by simp [Value.oneCell']) (by show acc.length + 1 ≤ 9223372036854775807; omega) (by omega) (by simp; omega) ?_; intro v' w1 hown' hgrow _; obtain ⟨g', cap', rfl⟩ := ownsRow_succ hown'; obtain ⟨hv1, hv2, hr2, hk2, hb2⟩ := box2.appended (by decide) (own_less row2 (by omega : w.heap.size ≤ w.heap.size + 5)) (by omega) (Nat.le_refl _) (own_less hown' (by omega : w.heap.size ≤ w.heap.size + 5)) hgrow; have hr5 := hown'.kept (grownBy_setCell' w1 w.heap.size (.slice (some ⟨g', 0, none⟩) (acc.length + 1) cap')) (.inr (hv1.not_row (by decide) hown').symm); have hc1 := hv1.cell; have hf1 := hv1.frozen)
  have e3 := hk2.same _ _ l2 rfl
  have lt3 := blk_lt e3
  have o3 : ∀ k, k < w.heap.size + 4 → k ≠ w.heap.size → (w1.setCell ⟨w.heap.size, 0, none⟩ (.slice (some ⟨g', 0, none⟩) (acc.length + 1) cap')).heap[k]? = wr.heap[k]? := fun k h1 h2 => by
   refine ((Below.heap_setCell _ _ _ k (by intro e; exact h2 e)).trans (hgrow.block k (by simp; omega) (own_base5 row2 k (by omega)))).trans ?_
   exact (Below.heap_alloc W2 (.cells #[.int .i64 n] 3) k (by omega)).trans (o2 k (by omega))
  refine ⟨e3, rfl, .slice (some ⟨g', 0, none⟩) (acc.length + 1) cap', ?_⟩
  have q4 : ∀ k, k ≠ w.heap.size + 4 → ((w1.setCell ⟨w.heap.size, 0, none⟩ (.slice (some ⟨g', 0, none⟩) (acc.length + 1) cap')).putObj (w.heap.size + 3 + 1) (.loop (rec .ready none))).heap[k]? = (w1.setCell ⟨w.heap.size, 0, none⟩ (.slice (some ⟨g', 0, none⟩) (acc.length + 1) cap')).heap[k]? := fun k hk => World.putObj_heap_other (by omega)
  refine ⟨(q4 _ (by omega)).trans hv2, ?_, (q4 _ (by omega)).trans ((o3 _ (by omega) (by omega)).trans hG.seps), (q4 _ (by omega)).trans ((o3 _ (by omega) (by omega)).trans hG.pb), (q4 _ (by omega)).trans ((o3 _ (by omega) (by omega)).trans hG.dd), World.putObj_heap_same lt3, hG.rd, hG.cap, below_putObj _ (bel2.trans hb2) (by omega)⟩
  have hr6 := ownsRow_putObj hr5 (.loop (rec .ready none)) e3 rfl
  simpa using hr6
 -- WALK
 refine callsIn_of_wp Try.func37 rfl trivial ?_ rfl
 simp only [Try.ntmps37, List.size_toArray, List.length_cons, List.length_nil, Nat.reduceAdd, Nat.reduceSub, Array.replicate_succ, Array.replicate_zero, List.push_toArray, List.append_toArray, List.nil_append, List.cons_append]
 gi_wp2
 gi_loopw [4] (fun v wr => ∃ (kq : Nat) (A : Option Addr) (c : Nat) (xs : List ByteArray) (acc : List Int) (vo : Value), GroupAt w rec a1 wr A c xs vo acc ∧ level_Group.l0 kq xs a1 acc = some r) (fun _ wr => boxLen (w.heap.size + 1) wr)
 case atStart => exact ⟨k, A0, c0, l0, [], _, hG0, h⟩
 case round =>
  clear hG0 h hr0 hc0
  obtain ⟨kq, A, c, xs, acc, vo, hG, hl0⟩ := hrel
  cases kq with
  | zero => simp [level_Group.l0] at hl0
  | succ kq =>
   simp only [level_Group.l0] at hl0
   have hm0 := hG.boxLen
   gi_wp2
   gi_loopw [4] (fun v wr => ∃ (kq : Nat) (n : Int) (vo : Value), v = .int .i64 n ∧ 1 ≤ n ∧ n ≤ (xs.length : Int) + 1 ∧ GroupAt w rec a1 wr A c xs vo acc ∧ level_Group.l1 kq xs a1 acc n = some r) (fun v _ => xs.length + 1 - intOf v)
   case atStart => exact ⟨kq, 1, vo, rfl, by omega, by omega, hG, hl0⟩
   case round =>
    clear hG hl0 kq vo
    obtain ⟨kq, n, vo, rfl, hn1, hn2, hG, hl1⟩ := hrel
    have hcap := hG.rd.2.1
    have hc1 := blk_cell hG.seps 0
    have hc2 := blk_cell hG.pb 0
    have hf1 := blk_frozen hG.seps 0
    cases kq with
    | zero => simp [level_Group.l1] at hl1
    | succ kq =>
     simp only [level_Group.l1] at hl1
     by_cases d1 : n ≤ (xs.length : Int)
     rotate_left
     ·rw [if_neg d1] at hl1
      cases kq with
      | zero => simp [level_Group.l2] at hl1
      | succ kq =>
       simp only [level_Group.l2] at hl1
       by_cases d3 : acc.length < 17592186044416
       rotate_left
       ·rw [if_neg d3] at hl1; cases hl1
       rw [if_pos d3, if_pos (by omega)] at hl1
       obtain rfl := Option.some.inj hl1
       obtain ⟨i09, hi09, _, hsz9, _⟩ := info_parts info9
       obtain ⟨hcut, _, _⟩ := print_take_of (P := Try.prog) Value.string (⟨#[]⟩ : ByteArray) 22 9 .i64 Try.underlying22 hi09 hsz9 A c xs (n - 1) (by omega) (by omega) hG.cap
       generalize (xs.take (n - 1).toNat).length = ln at hcut
       obtain ⟨fn_, tm_, as_, bd_, hy, hR⟩ := hYield _ A c xs vo acc n (.slice A ln c) hG d3
       have dd1 : decide (n ≤ (xs.length : Int)) = false := decide_eq_false d1
       have dd2 : decide ((xs.length : Int) < n) = true := decide_eq_true (by omega)
       have wn1 : wrap64 (n - 1) = n - 1 := by unfold wrap64; omega
       clear hi09 hsz9 hcap d3 hm0 hYield hY hz
       gi_wp2_with ((with_reducible refine And.intro (a := Fence.fn Fence.wide 38) ?_ ?_); exact trivial)
       refine hR.mono ?_
       rintro e W3 ⟨rfl, v3, hG3⟩
       have hc5 := blk_cell hG3.seps 0
       clear hy hR
       gi_wp2
       refine bodyPost_ret (results_none rfl _ _ _) rfl ?_
       refine ⟨⟨_, rfl⟩, .inl ⟨hG3.lp, ?_⟩⟩
       have o4 : ∀ k, k ≠ w.heap.size + 4 → (W3.putObj (w.heap.size + 3 + 1) (.loop (rec .exhausted none))).heap[k]? = W3.heap[k]? := fun k hk => World.putObj_heap_other (by omega)
       have out4 := (o4 _ (by omega)).trans hG3.out
       have dd4 := (o4 _ (by omega)).trans hG3.dd
       have row4 := ownsRow_putObj hG3.own (.loop (rec .exhausted none)) hG3.lp rfl
       have bel4 := below_putObj (l := w.heap.size + 3 + 1) (.loop (rec .exhausted none)) hG3.below (by omega)
       generalize W3.putObj (w.heap.size + 3 + 1) (.loop (rec .exhausted none)) = W4 at out4 dd4 row4 bel4 ⊢
       have hc6 := blk_cell out4 0
       clear hc5 hG3 hG hc1 hc2 hf1 o4 hcut
       gi_wp2
       refine ⟨by simp, .inl ⟨_, _, rfl, run_takeDeferred dd4, ?_⟩⟩
       have row5 := ownsRow_putObj row4 (.deferred none) dd4 rfl
       have bel5 := below_putObj (l := w.heap.size + 3) (.deferred none) bel4 (by omega)
       refine ⟨_, results_tmp rfl _ _ _, v3, rfl, ?_, bel5⟩
       exact Kd.R_of_own (h1 := fun _ => rfl) (own_less (base := w.heap.size) (by simpa [encs] using row5) (by omega)) (fun _ _ => trivial)
     rw [if_pos d1] at hl1
     have dmx : n < 9223372036854775807 := by
      by_cases q : n < 9223372036854775807
      rotate_left
      ·rw [if_neg q] at hl1; cases hl1
      exact q
     rw [if_pos dmx] at hl1
     obtain ⟨t, ht, hl1⟩ := bM hl1
     obtain ⟨kq0, hkq0⟩ : ∃ kq0, kq0 = kq := ⟨_, rfl⟩
     rw [← hkq0] at ht
     have dd1 : decide (n ≤ (xs.length : Int)) = true := decide_eq_true d1
     have wn : wrap64 (n + 1) = n + 1 := by unfold wrap64; omega
     cases t with
     | true =>
      simp only [if_true] at hl1
      gi_wp2_with ((with_reducible refine And.intro (a := Fence.fn Fence.wide 38) ?_ ?_); exact trivial; gi_at_call 38; refine (callsIn_wide.2 (level_fits.calls kq0 A c xs (n + 1) a1 true _ (Kd.C_below hG.rd hG.below) hG.cap ht)).mono ?_; rintro e w' ⟨rfl, hb⟩; replace hG := hG.next hb; clear hb)
      go_roundw
      case rel => exact ⟨kq, n + 1, vo, rfl, by omega, by omega, hG, hl1⟩
      case measure => simp only [intOf]; omega
     | false =>
      simp only [if_false, Bool.false_eq_true] at hl1
      cases kq with
      | zero => simp [level_Group.l2] at hl1
      | succ kq =>
       simp only [level_Group.l2] at hl1
       by_cases d3 : acc.length < 17592186044416
       rotate_left
       ·rw [if_neg d3] at hl1; cases hl1
       rw [if_pos d3, if_neg (by omega)] at hl1
       obtain ⟨i09, hi09, _, hsz9, _⟩ := info_parts info9
       obtain ⟨hcut, _, _⟩ := print_take_of (P := Try.prog) Value.string (⟨#[]⟩ : ByteArray) 22 9 .i64 Try.underlying22 hi09 hsz9 A c xs (n - 1) (by omega) (by omega) hG.cap
       generalize (xs.take (n - 1).toNat).length = ln at hcut
       obtain ⟨A', hcut2, hA2, hC2⟩ := print_drop_of (P := Try.prog) Value.string (⟨#[]⟩ : ByteArray) 22 9 .i64 Try.underlying22 hi09 hsz9 A c xs n (by omega) (by omega) hG.cap
       have hR2 : Kd.C Kd.string w A' (xs.drop n.toNat).length (xs.drop n.toNat) := Kd.C_of_reads (h1 := fun _ => rfl) (hA2 _ (Kd.reads_of_C hG.rd))
       have hlen2 : (xs.drop n.toNat).length < xs.length := by rw [List.length_drop]; omega
       clear hA2 hi09 hsz9
       generalize c - n.toNat = c2 at hcut2 hC2
       generalize xs.drop n.toNat = ys at hcut2 hR2 hC2 hl1 hlen2
       gi_wp2_with ((with_reducible refine And.intro (a := Fence.fn Fence.wide 38) ?_ ?_); exact trivial; gi_at_call 38; refine (callsIn_wide.2 (level_fits.calls kq0 A c xs (n + 1) a1 false _ (Kd.C_below hG.rd hG.below) hG.cap ht)).mono ?_; rintro e w' ⟨rfl, hb⟩; replace hG := hG.next hb; clear hb; have hc3 := blk_cell hG.seps 0; have hf3 := blk_frozen hG.seps 0; obtain ⟨fn_, tm_, as_, bd_, hy, hR⟩ := hYield _ A c xs vo acc n (.slice A ln c) hG d3)
       refine hR.mono ?_
       rintro e W3 ⟨rfl, v3, hG3⟩
       have hc5 := blk_cell hG3.seps 0
       have hf5 := blk_frozen hG3.seps 0
       have d4 : decide ((xs.length : Int) < n) = false := decide_eq_false (by omega)
       clear hy hR hc3 hf3 hc1 hc2 hf1
       gi_wp2
       go_roundw
       case rel =>
        refine ⟨kq, A', c2, ys, acc ++ [n], v3, ⟨(Below.heap_setCell _ _ _ _ (by simp)).trans hG3.out, hG3.own.kept (grownBy_setCell' W3 _ _) (.inr (own_base5 hG3.own _ (by omega)).symm), ?_, (Below.heap_setCell _ _ _ _ (by simp)).trans hG3.pb, (Below.heap_setCell _ _ _ _ (by simp)).trans hG3.dd, (Below.heap_setCell _ _ _ _ (by simp)).trans hG3.lp, hR2, hC2, hG3.below.setCell (by simp) _⟩, hl1⟩
        exact Boxed.set (t := 22) _ hG3.seps
       case measure =>
        rw [hm0]
        simp [boxLen, World.cell?, show (W3.setCell ⟨w.heap.size + 1, 0, none⟩ (.slice A' ys.length c2)).heap[w.heap.size + 1]? = _ from Boxed.set (t := 22) _ hG3.seps]
        exact hlen2
end


/-! ### withyref01_Words: function 17 -/
def withyref01_Words.l0 : Nat → List ByteArray → List ByteArray → Int → Option (Bool)
 | 0, _, _, _ => none
 | k + 1, x0, x1, x5 => if x5 < (x0.length : Int) then (if 0 ≤ x5 then (if x5 < (x1.length : Int) then (if (rdOf ByteArray.empty x0 x5).toList = (rdOf ByteArray.empty x1 x5).toList then (withyref01_Words.l0 k x0 x1 (wrap64 (x5 + 1))) else (some false)) else (none)) else (none)) else (some true)
def withyref01_Words.f (k : Nat) (l0 : List ByteArray) (l1 : List ByteArray) : Option (Bool) := if (l0.length : Int) = (l1.length : Int) then (withyref01_Words.l0 k l0 l1 0) else (some false)
theorem withyref01_Words.mono_l : ∀ k, (∀ y0 y1 y2, LeO (withyref01_Words.l0 k y0 y1 y2) (withyref01_Words.l0 (k + 1) y0 y1 y2))
 | 0 => fun _ _ _ r h => by simp [withyref01_Words.l0] at h
 | k + 1 => by
  have ih0 := withyref01_Words.mono_l k
  ·intro y0 y1 y2
   unfold withyref01_Words.l0
   repeat' first
   | (with_reducible exact ih0 _ _ _)
   | (with_reducible exact LeO.refl _)
   | (with_reducible exact LeO.none _)
   | (with_reducible refine LeO.ite ?_ ?_)
   | (with_reducible refine LeO.bind ?_ (fun _ => ?_))
   | exact ih0 _ _ _
   | exact LeO.none _
   | refine LeO.ite ?_ ?_
   | refine LeO.bind ?_ (fun _ => ?_)
theorem withyref01_Words.mono : ∀ a0 a1 k, LeO (withyref01_Words.f k a0 a1) (withyref01_Words.f (k + 1) a0 a1) := by
 intro a0 a1 k
 have ih0 := withyref01_Words.mono_l k
 unfold withyref01_Words.f
 repeat' first
   | (with_reducible exact ih0 _ _ _)
   | (with_reducible exact LeO.refl _)
   | (with_reducible exact LeO.none _)
   | (with_reducible refine LeO.ite ?_ ?_)
   | (with_reducible refine LeO.bind ?_ (fun _ => ?_))
   | exact ih0 _ _ _
   | exact LeO.none _
   | refine LeO.ite ?_ ?_
   | refine LeO.bind ?_ (fun _ => ?_)
set_option maxHeartbeats 8000000 in
set_option maxRecDepth 100000 in
theorem withyref01_Words.calls (k : Nat) (A0 : Option Addr) (c0 : Nat) (l0 : List ByteArray) (A1 : Option Addr) (c1 : Nat) (l1 : List ByteArray) (r : Bool) (w : World) (hr0 : Kd.C Kd.string w A0 l0.length l0) (hc0 : l0.length ≤ c0) (hr1 : Kd.C Kd.string w A1 l1.length l1) (hc1 : l1.length ≤ c1) (h : withyref01_Words.f k l0 l1 = some r) :
  Calls Try.prog 17 #[.slice A0 l0.length c0, .slice A1 l1.length c1] w fun e w' => e = .returned (.bool r) ∧ Drawn0 w w' := by
 have HR0 := Aside0.mk hr0
 have HC0 := Aside0.mk hc0
 clear hr0 hc0
 have HR1 := Aside0.mk hr1
 have HC1 := Aside0.mk hc1
 clear hr1 hc1
 have H : (if (l0.length : Int) = (l1.length : Int) then (withyref01_Words.l0 k l0 l1 0) else (some false)) = some r := h
 clear h
 by_cases c3 : (l0.length : Int) = (l1.length : Int)
 rotate_left
 ·rw [if_neg c3] at H
  have c3b0 : ((l0.length : Int) == (l1.length : Int)) = false := beq_eq_false_iff_ne.mpr c3
  have c3b1 : ((l0.length : Int) != (l1.length : Int)) = true := bne_iff_ne.mpr c3
  have c3b2 : (l0.length == l1.length) = false := by first | simpa using c3 | (simp at c3 ⊢; omega)
  obtain rfl := Option.some.inj H
  go_enter Try.func17, Try.ntmps17
  go_wp2
  repeat (go_quiet (fail); try go_wp2)
  go_ret
  exact ⟨by first | rfl | (simp; done) | (simp [*]; done), by repeat (first | exact Drawn0.refl _ | apply Drawn0.step)⟩
 
 rw [if_pos c3] at H
 have c3b0 : ((l0.length : Int) == (l1.length : Int)) = true := beq_iff_eq.mpr c3
 have c3b1 : ((l0.length : Int) != (l1.length : Int)) = false := bne_eq_false_iff_eq.mpr c3
 have c3b2 : (l0.length == l1.length) = true := by first | simpa using c3 | (simp at c3 ⊢; omega)
 clear c3
 have H' := Aside0.mk H
 clear H
 go_enter Try.func17, Try.ntmps17
 go_wp2
 repeat (go_quiet (fail); try go_wp2)
 go_loopg [5] k (fun kq v5 w' => ∃ (x5_1 : Int), v5 = .int .i64 x5_1 ∧ Aside0 (withyref01_Words.l0 kq l0 l1 x5_1 = some r) ∧ Aside0 (kq ≤ k) ∧ Drawn0 w w')
 case atStart => exact ⟨(0), (by first | rfl | (simp; done) | (simp [*]; done)), H', ⟨Nat.le_refl _⟩, by repeat (first | exact Drawn0.refl _ | apply Drawn0.step)⟩
 case round =>
  clear H'
  try clear c1
  try clear p2
  try clear c3
  try clear c3b0
  try clear c3b1
  try clear c3b2
  obtain ⟨x5_1, rfl, HA, HK1, ⟨m1, rfl⟩⟩ := hrel
  cases gk with
  | zero => exact absurd HA.out (by simp [withyref01_Words.l0])
  | succ k1 =>
   have H := HA.out
   clear HA
   simp only [withyref01_Words.l0] at H
   by_cases c4 : x5_1 < (l0.length : Int)
   rotate_left
   ·rw [if_neg c4] at H
    have c4b0 : decide (x5_1 < (l0.length : Int)) = false := decide_eq_false c4
    clear c4
    obtain rfl := Option.some.inj H
    go_wp2
    repeat (go_quiet (fail); try go_wp2)
    go_ret
    exact ⟨by first | rfl | (simp; done) | (simp [*]; done), by repeat (first | exact Drawn0.refl _ | apply Drawn0.step)⟩
   rw [if_pos c4] at H
   have c4b0 : decide (x5_1 < (l0.length : Int)) = true := decide_eq_true c4
   clear c4
   by_cases c5 : 0 ≤ x5_1
   rotate_left
   ·rw [if_neg c5] at H
    exact absurd H (by simp)
   rw [if_pos c5] at H
   have c5b0 : decide (0 ≤ x5_1) = true := decide_eq_true c5
   clear c5
   by_cases c6 : x5_1 < (l1.length : Int)
   rotate_left
   ·rw [if_neg c6] at H
    exact absurd H (by simp)
   rw [if_pos c6] at H
   have c6b0 : decide (x5_1 < (l1.length : Int)) = true := decide_eq_true c6
   clear c6
   by_cases c7 : (rdOf ByteArray.empty l0 x5_1).toList = (rdOf ByteArray.empty l1 x5_1).toList
   rotate_left
   ·rw [if_neg c7] at H
    have c7b0 : ((rdOf ByteArray.empty l0 x5_1).toList == (rdOf ByteArray.empty l1 x5_1).toList) = false := beq_eq_false_iff_ne.mpr c7
    have c7b1 : ((rdOf ByteArray.empty l0 x5_1).toList != (rdOf ByteArray.empty l1 x5_1).toList) = true := bne_iff_ne.mpr c7
    obtain rfl := Option.some.inj H
    have p313 : 0 ≤ (x5_1 : Int) := of_decide_eq_true aM
    have q313 : x5_1 < (l0.length : Int) := of_decide_eq_true aM
    obtain ⟨ad313, e313, hx313_0⟩ := Kd.at_string HR0.out x5_1 p313 q313
    cases e313
    replace p313 := eq_true p313
    replace q313 := eq_true q313
    have p314 : 0 ≤ (x5_1 : Int) := of_decide_eq_true aM
    have q314 : x5_1 < (l1.length : Int) := of_decide_eq_true aM
    obtain ⟨ad314, e314, hx314_0⟩ := Kd.at_string HR1.out x5_1 p314 q314
    cases e314
    replace p314 := eq_true p314
    replace q314 := eq_true q314
    go_wp2
    repeat (go_quiet (fail); try go_wp2)
    go_ret
    exact ⟨by first | rfl | (simp; done) | (simp [*]; done), by repeat (first | exact Drawn0.refl _ | apply Drawn0.step)⟩
   rw [if_pos c7] at H
   have c7b0 : ((rdOf ByteArray.empty l0 x5_1).toList == (rdOf ByteArray.empty l1 x5_1).toList) = true := beq_iff_eq.mpr c7
   have c7b1 : ((rdOf ByteArray.empty l0 x5_1).toList != (rdOf ByteArray.empty l1 x5_1).toList) = false := bne_eq_false_iff_eq.mpr c7
   clear c7
   have H' := Aside0.mk H
   clear H
   have p313 : 0 ≤ (x5_1 : Int) := of_decide_eq_true aM
   have q313 : x5_1 < (l0.length : Int) := of_decide_eq_true aM
   obtain ⟨ad313, e313, hx313_0⟩ := Kd.at_string HR0.out x5_1 p313 q313
   cases e313
   replace p313 := eq_true p313
   replace q313 := eq_true q313
   have p314 : 0 ≤ (x5_1 : Int) := of_decide_eq_true aM
   have q314 : x5_1 < (l1.length : Int) := of_decide_eq_true aM
   obtain ⟨ad314, e314, hx314_0⟩ := Kd.at_string HR1.out x5_1 p314 q314
   cases e314
   replace p314 := eq_true p314
   replace q314 := eq_true q314
   go_wp2
   repeat (go_quiet (fail); try go_wp2)
   go_roundg k1
   case measure => have := HK1.out; omega
   case rel => exact ⟨(wrap64 (x5_1 + 1)), (by first | rfl | (simp; done) | (simp [*]; done)), H', ⟨by have := HK1.out; omega⟩, by repeat (first | exact Drawn0.refl _ | apply Drawn0.step)⟩
/-! ### level_Up: function 18 -/
def level_Up.l0 : Nat → List ByteArray → List ByteArray → Int → List Int → Int → Int → Option (List ByteArray)
 | 0, _, _, _, _, _, _ => none
 | k + 1, x0, x5, x6, x9, x10, x11 => if x11 < x10 then (if 0 ≤ x11 then (if x11 < (x9.length : Int) then (if (wrap64 (x6 + (rd x9 x11))) ≤ (x0.length : Int) then (if 0 ≤ (wrap64 ((wrap64 (x6 + (rd x9 x11))) - 1)) then (if (wrap64 ((wrap64 (x6 + (rd x9 x11))) - 1)) < (x0.length : Int) then (if x5.length < 8796093022208 then (level_Up.l0 k x0 (x5 ++ [rdOf ByteArray.empty x0 (wrap64 ((wrap64 (x6 + (rd x9 x11))) - 1))]) (wrap64 (x6 + (rd x9 x11))) x9 x10 (wrap64 (x11 + 1))) else (none)) else (none)) else (none)) else (level_Up.l0 k x0 x5 (wrap64 (x6 + (rd x9 x11))) x9 x10 (wrap64 (x11 + 1)))) else (none)) else (none)) else (some x5)
def level_Up.f (k : Nat) (l0 : List ByteArray) (l1 : List Int) : Option (List ByteArray) := level_Up.l0 k l0 ([] : List ByteArray) 0 l1 (l1.length : Int) 0
theorem level_Up.mono_l : ∀ k, (∀ y0 y1 y2 y3 y4 y5, LeO (level_Up.l0 k y0 y1 y2 y3 y4 y5) (level_Up.l0 (k + 1) y0 y1 y2 y3 y4 y5))
 | 0 => fun _ _ _ _ _ _ r h => by simp [level_Up.l0] at h
 | k + 1 => by
  have ih0 := level_Up.mono_l k
  ·intro y0 y1 y2 y3 y4 y5
   unfold level_Up.l0
   repeat' first
   | (with_reducible exact ih0 _ _ _ _ _ _)
   | (with_reducible exact LeO.refl _)
   | (with_reducible exact LeO.none _)
   | (with_reducible refine LeO.ite ?_ ?_)
   | (with_reducible refine LeO.bind ?_ (fun _ => ?_))
   | exact ih0 _ _ _ _ _ _
   | exact LeO.none _
   | refine LeO.ite ?_ ?_
   | refine LeO.bind ?_ (fun _ => ?_)
theorem level_Up.mono : ∀ a0 a1 k, LeO (level_Up.f k a0 a1) (level_Up.f (k + 1) a0 a1) := by
 intro a0 a1 k
 have ih0 := level_Up.mono_l k
 unfold level_Up.f
 repeat' first
   | (with_reducible exact ih0 _ _ _ _ _ _)
   | (with_reducible exact LeO.refl _)
   | (with_reducible exact LeO.none _)
   | (with_reducible refine LeO.ite ?_ ?_)
   | (with_reducible refine LeO.bind ?_ (fun _ => ?_))
   | exact ih0 _ _ _ _ _ _
   | exact LeO.none _
   | refine LeO.ite ?_ ?_
   | refine LeO.bind ?_ (fun _ => ?_)
set_option maxHeartbeats 8000000 in
set_option maxRecDepth 100000 in
theorem level_Up.calls (k : Nat) (A0 : Option Addr) (c0 : Nat) (l0 : List ByteArray) (A1 : Option Addr) (c1 : Nat) (l1 : List Int) (r : List ByteArray) (w : World) (hr0 : Kd.C Kd.string w A0 l0.length l0) (hc0 : l0.length ≤ c0) (hr1 : Kd.C (Kd.int .i64) w A1 l1.length l1) (hc1 : l1.length ≤ c1) (h : level_Up.f k l0 l1 = some r) :
  Calls Try.prog 18 #[.slice A0 l0.length c0, .slice A1 l1.length c1] w fun e w' => ∃ v0_ : Value, e = .returned (v0_) ∧ Kd.R Kd.string 9 w' w.heap.size (fun _ => True) v0_ r ∧ Below w.heap.size w w' := by
 have HR0 := Aside0.mk hr0
 have HC0 := Aside0.mk hc0
 clear hr0 hc0
 have HR1 := Aside0.mk hr1
 have HC1 := Aside0.mk hc1
 clear hr1 hc1
 have HB := as_ (Below.refl w.heap.size w)
 have H : (level_Up.l0 k l0 ([] : List ByteArray) 0 l1 (l1.length : Int) 0) = some r := h
 clear h
 have H' := Aside0.mk H
 clear H
 go_enter Try.func18, Try.ntmps18
 go_wp2
 go_loopg [5, 6, 11] k (fun kq v5 v6 v11 w' => ∃ (x5_1 : List ByteArray) (x6_1 : Int) (x11_1 : Int), v6 = .int .i64 x6_1 ∧ v11 = .int .i64 x11_1 ∧ Aside0 (level_Up.l0 kq l0 x5_1 x6_1 l1 (l1.length : Int) x11_1 = some r) ∧ Aside0 (kq ≤ k) ∧ Aside0 (Kd.R Kd.string 9 w' w.heap.size (fun _ => True) v5 x5_1) ∧ Aside0 (Below w.heap.size w w'))
 case atStart => exact ⟨(([] : List ByteArray)), (0), (0), (by first | rfl | (simp; done) | (simp [*]; done)), (by first | rfl | (simp; done) | (simp [*]; done)), H', ⟨Nat.le_refl _⟩, ⟨by first | exact Kd.R_nil _ _ _ _ _ | exact Kd.N_nil _ _ _ _ _ | exact Kd.V_nil _ _ _ _ _ | exact Kd.Q_nil _ _ _ _ _ | exact Kd.S_nil _ _ _ _ _⟩, ⟨by repeat (first | (with_reducible first | exact HB.out | apply below_alloc | apply pw_below_drewN | apply below_drew1) | exact HB.out)⟩⟩
 case round =>
  clear H'
  try clear c1
  try clear p2
  obtain ⟨x5_1, x6_1, x11_1, rfl, rfl, HA, HK1, HO_5, HB⟩ := hrel
  cases gk with
  | zero => exact absurd HA.out (by simp [level_Up.l0])
  | succ k1 =>
   have H := HA.out
   clear HA
   simp only [level_Up.l0] at H
   by_cases c3 : x11_1 < (l1.length : Int)
   rotate_left
   ·rw [if_neg c3] at H
    have c3b0 : decide (x11_1 < (l1.length : Int)) = false := decide_eq_false c3
    clear c3
    obtain rfl := Option.some.inj H
    go_wp2
    go_ret
    exact ⟨_, eW, by (with_reducible repeat (first | apply Kd.R_alloc | apply Kd.R_drewN | apply Kd.R_drew)); exact HO_5.out, by repeat (first | (with_reducible first | exact HB.out | apply below_alloc | apply pw_below_drewN | apply below_drew1) | exact HB.out)⟩
 
   rw [if_pos c3] at H
   have c3b0 : decide (x11_1 < (l1.length : Int)) = true := decide_eq_true c3
   clear c3
   by_cases c4 : 0 ≤ x11_1
   rotate_left
   ·rw [if_neg c4] at H
    exact absurd H (by simp)
   rw [if_pos c4] at H
   have c4b0 : decide (0 ≤ x11_1) = true := decide_eq_true c4
   clear c4
   by_cases c5 : x11_1 < (l1.length : Int)
   rotate_left
   ·rw [if_neg c5] at H
    exact absurd H (by simp)
   rw [if_pos c5] at H
   have c5b0 : decide (x11_1 < (l1.length : Int)) = true := decide_eq_true c5
   clear c5
   by_cases c6 : (wrap64 (x6_1 + (rd l1 x11_1))) ≤ (l0.length : Int)
   rotate_left
   ·rw [if_neg c6] at H
    have c6b0 : decide ((wrap64 (x6_1 + (rd l1 x11_1))) ≤ (l0.length : Int)) = false := decide_eq_false c6
    clear c6
    have H' := Aside0.mk H
    clear H
    have p315 : 0 ≤ (x11_1 : Int) := of_decide_eq_true aM
    have q315 : x11_1 < (l1.length : Int) := of_decide_eq_true aM
    obtain ⟨ad315, e315, hx315_0⟩ := Kd.at_int HR1.out x11_1 p315 q315
    cases e315
    replace hx315_0 := (HB.out.cell (World.block_lt_of_cell? w _ hx315_0)).trans hx315_0
    replace p315 := eq_true p315
    replace q315 := eq_true q315
    go_wp2
    go_roundg k1
    case measure => have := HK1.out; omega
    case rel => exact ⟨(x5_1), (wrap64 (x6_1 + (rd l1 x11_1))), (wrap64 (x11_1 + 1)), (by first | rfl | (simp; done) | (simp [*]; done)), (by first | rfl | (simp; done) | (simp [*]; done)), H', ⟨by have := HK1.out; omega⟩, ⟨by (with_reducible repeat (first | apply Kd.R_alloc | apply Kd.R_drewN | apply Kd.R_drew)); exact HO_5.out⟩, ⟨by repeat (first | (with_reducible first | exact HB.out | apply below_alloc | apply pw_below_drewN | apply below_drew1) | exact HB.out)⟩⟩
   rw [if_pos c6] at H
   have c6b0 : decide ((wrap64 (x6_1 + (rd l1 x11_1))) ≤ (l0.length : Int)) = true := decide_eq_true c6
   clear c6
   obtain ⟨ji7, hji7⟩ : ∃ j_ : Int, (wrap64 ((wrap64 (x6_1 + (rd l1 x11_1))) - 1)) = j_ := ⟨_, rfl⟩
   replace H : (if 0 ≤ (ji7) then (if (ji7) < (l0.length : Int) then (if x5_1.length < 8796093022208 then (level_Up.l0 k1 l0 (x5_1 ++ [rdOf ByteArray.empty l0 (ji7)]) (wrap64 (x6_1 + (rd l1 x11_1))) l1 (l1.length : Int) (wrap64 (x11_1 + 1))) else (none)) else (none)) else (none)) = some r := by first | (rw [hji7] at H; exact H) | (simp only [hji7] at H ⊢; exact H)
   have hji7w : (IntKind.i64.wrap ((wrap64 (x6_1 + (rd l1 x11_1))) - 1)) = ji7 := (i64_w _).trans hji7
   by_cases c8 : 0 ≤ (ji7)
   rotate_left
   ·rw [if_neg c8] at H
    exact absurd H (by simp)
   rw [if_pos c8] at H
   have c8b0 : decide (0 ≤ (ji7)) = true := decide_eq_true c8
   clear c8
   by_cases c9 : (ji7) < (l0.length : Int)
   rotate_left
   ·rw [if_neg c9] at H
    exact absurd H (by simp)
   rw [if_pos c9] at H
   have c9b0 : decide ((ji7) < (l0.length : Int)) = true := decide_eq_true c9
   clear c9
   by_cases c10 : x5_1.length < 8796093022208
   rotate_left
   ·rw [if_neg c10] at H
    exact absurd H (by simp)
   rw [if_pos c10] at H
   have LMc10 := Aside0.mk c10
   clear c10
   obtain ⟨y317, hy317⟩ : ∃ y_ : List ByteArray, y_ = (x5_1 ++ [rdOf ByteArray.empty l0 (ji7)]) := ⟨_, rfl⟩
   replace H : (level_Up.l0 k1 l0 y317 (wrap64 (x6_1 + (rd l1 x11_1))) l1 (l1.length : Int) (wrap64 (x11_1 + 1))) = some r := by first | (rw [hy317]; with_reducible exact H) | (have H2_ := (Option.bind_some _ _).symm.trans H; rw [hy317]; with_reducible exact H2_) | (have H2_ := (Option.bind_some _ _).symm.trans H; with_reducible exact H2_) | with_reducible exact H | (rw [hy317]; exact H) | exact H
   have Ny317 := Aside0.mk hy317
   clear hy317
   have H' := Aside0.mk H
   clear H
   have p315 : 0 ≤ (x11_1 : Int) := of_decide_eq_true aM
   have q315 : x11_1 < (l1.length : Int) := of_decide_eq_true aM
   obtain ⟨ad315, e315, hx315_0⟩ := Kd.at_int HR1.out x11_1 p315 q315
   cases e315
   replace hx315_0 := (HB.out.cell (World.block_lt_of_cell? w _ hx315_0)).trans hx315_0
   replace p315 := eq_true p315
   replace q315 := eq_true q315
   have p316 : 0 ≤ ((ji7) : Int) := of_decide_eq_true aM
   have q316 : (ji7) < (l0.length : Int) := of_decide_eq_true aM
   obtain ⟨ad316, e316, hx316_0⟩ := Kd.at_string HR0.out (ji7) p316 q316
   cases e316
   replace hx316_0 := (HB.out.cell (World.block_lt_of_cell? w _ hx316_0)).trans hx316_0
   replace p316 := eq_true p316
   replace q316 := eq_true q316
   go_wp2_with (first | ((with_reducible refine gate_builtin (b := .append) (xs := #[.tmp 22, .tmp 28]) rfl ?_); at_builtin; refine Kd.R_append Kd.string (w0 := w) w.heap.size rfl (.tmp 22) (.tmp 28) 22 9 (.string ⟨#[]⟩) 16 rfl Try.underlying22 info9 rfl (by decide) (by omega) u5 x5_1 (rdOf ByteArray.empty l0 (ji7)) [.string (rdOf ByteArray.empty l0 (ji7))] (fun _ => True) (fun _ => False) rfl rfl ?aP (fun _ hk => hk.elim) ?aF ?aO ?aB ?aS ?aL ?_; (case aP => exact rfl); (case aB => exact bA); (case aF => exact (fun _ _ => trivial)); (case aO => exact (by (with_reducible repeat (first | apply Kd.R_alloc | apply Kd.R_drewN | apply Kd.R_drew)); exact HO_5.out)); (case aS => exact (below_size bA)); (case aL => have := LMc10.out; omega); intro v318 w11 ho hb hg hat; rw [← Ny317.out] at ho; have HO319 := as_ (ho); replace HB := as_ (hb); clear HO_5; clear ho hb hg hat))
   go_roundg k1
   case measure => have := HK1.out; omega
   case rel => exact ⟨(y317), (wrap64 (x6_1 + (rd l1 x11_1))), (wrap64 (x11_1 + 1)), (by first | rfl | (simp; done) | (simp [*]; done)), (by first | rfl | (simp; done) | (simp [*]; done)), H', ⟨by have := HK1.out; omega⟩, ⟨by (with_reducible repeat (first | apply Kd.R_alloc | apply Kd.R_drewN | apply Kd.R_drew)); exact HO319.out⟩, ⟨by repeat (first | (with_reducible first | exact HB.out | apply below_alloc | apply pw_below_drewN | apply below_drew1) | exact HB.out)⟩⟩
/-! ### withyref17_Up: function 19 -/
def withyref17_Up.l0 : Nat → List ByteArray → List Int → List ByteArray → Int → Int → Option (List ByteArray)
 | 0, _, _, _, _, _ => none
 | k + 1, x0, x1, x5, x6, x7 => if (wrap64 (x7 + 1)) < (x1.length : Int) then (if 0 ≤ x7 then (if x7 < (x1.length : Int) then (if 0 ≤ (wrap64 ((wrap64 (x6 + (rd x1 x7))) - 1)) then (if (wrap64 ((wrap64 (x6 + (rd x1 x7))) - 1)) < (x0.length : Int) then (if x5.length < 8796093022208 then (withyref17_Up.l0 k x0 x1 (x5 ++ [rdOf ByteArray.empty x0 (wrap64 ((wrap64 (x6 + (rd x1 x7))) - 1))]) (wrap64 (x6 + (rd x1 x7))) (wrap64 (x7 + 1))) else (none)) else (none)) else (none)) else (none)) else (none)) else (some x5)
def withyref17_Up.f (k : Nat) (l0 : List ByteArray) (l1 : List Int) : Option (List ByteArray) := withyref17_Up.l0 k l0 l1 (([] : List ByteArray)) 0 0
theorem withyref17_Up.mono_l : ∀ k, (∀ y0 y1 y2 y3 y4, LeO (withyref17_Up.l0 k y0 y1 y2 y3 y4) (withyref17_Up.l0 (k + 1) y0 y1 y2 y3 y4))
 | 0 => fun _ _ _ _ _ r h => by simp [withyref17_Up.l0] at h
 | k + 1 => by
  have ih0 := withyref17_Up.mono_l k
  ·intro y0 y1 y2 y3 y4
   unfold withyref17_Up.l0
   repeat' first
   | (with_reducible exact ih0 _ _ _ _ _)
   | (with_reducible exact LeO.refl _)
   | (with_reducible exact LeO.none _)
   | (with_reducible refine LeO.ite ?_ ?_)
   | (with_reducible refine LeO.bind ?_ (fun _ => ?_))
   | exact ih0 _ _ _ _ _
   | exact LeO.none _
   | refine LeO.ite ?_ ?_
   | refine LeO.bind ?_ (fun _ => ?_)
theorem withyref17_Up.mono : ∀ a0 a1 k, LeO (withyref17_Up.f k a0 a1) (withyref17_Up.f (k + 1) a0 a1) := by
 intro a0 a1 k
 have ih0 := withyref17_Up.mono_l k
 unfold withyref17_Up.f
 repeat' first
   | (with_reducible exact ih0 _ _ _ _ _)
   | (with_reducible exact LeO.refl _)
   | (with_reducible exact LeO.none _)
   | (with_reducible refine LeO.ite ?_ ?_)
   | (with_reducible refine LeO.bind ?_ (fun _ => ?_))
   | exact ih0 _ _ _ _ _
   | exact LeO.none _
   | refine LeO.ite ?_ ?_
   | refine LeO.bind ?_ (fun _ => ?_)
set_option maxHeartbeats 8000000 in
set_option maxRecDepth 100000 in
theorem withyref17_Up.calls (k : Nat) (A0 : Option Addr) (c0 : Nat) (l0 : List ByteArray) (A1 : Option Addr) (c1 : Nat) (l1 : List Int) (r : List ByteArray) (w : World) (hr0 : Kd.C Kd.string w A0 l0.length l0) (hc0 : l0.length ≤ c0) (hr1 : Kd.C (Kd.int .i64) w A1 l1.length l1) (hc1 : l1.length ≤ c1) (h : withyref17_Up.f k l0 l1 = some r) :
  Calls Try.prog 19 #[.slice A0 l0.length c0, .slice A1 l1.length c1] w fun e w' => ∃ v0_ : Value, e = .returned (v0_) ∧ Kd.R Kd.string 9 w' w.heap.size (fun _ => True) v0_ r ∧ Below w.heap.size w w' := by
 have HR0 := Aside0.mk hr0
 have HC0 := Aside0.mk hc0
 clear hr0 hc0
 have HR1 := Aside0.mk hr1
 have HC1 := Aside0.mk hc1
 clear hr1 hc1
 have HB := as_ (Below.refl w.heap.size w)
 have H : (withyref17_Up.l0 k l0 l1 (([] : List ByteArray)) 0 0) = some r := h
 clear h
 obtain ⟨y320, hy320⟩ : ∃ y_ : List ByteArray, y_ = (([] : List ByteArray)) := ⟨_, rfl⟩
 replace H : (withyref17_Up.l0 k l0 l1 y320 0 0) = some r := by first | (rw [hy320]; with_reducible exact H) | (have H2_ := (Option.bind_some _ _).symm.trans H; rw [hy320]; with_reducible exact H2_) | (have H2_ := (Option.bind_some _ _).symm.trans H; with_reducible exact H2_) | with_reducible exact H | (rw [hy320]; exact H) | exact H
 have Ny320 := Aside0.mk hy320
 clear hy320
 have H' := Aside0.mk H
 clear H
 go_enter Try.func19, Try.ntmps19
 go_wp2_with (first | ((with_reducible refine gate_dst (N := 8) rfl ?_); refine Kd.R_lit Kd.string _ 9 ?hg (N := 8) ?hd (xs := ([] : List ByteArray)) (inner := []) (ok := fun _ => True) (okp := fun _ => True) ?hr ?hp (fun _ hk => hk) trivial (Below.refl _ _) (Nat.le_refl _) (by simp) ?_; (case hd => rfl); (case hg => rfl); (case hr => first | (go_simp; done) | (go_simp; rfl)); (case hp => exact (Reps.none _ _)); intro v321 w3 ho4 hb hg_ hnew_; clear hg_ hnew_; (first | rw [← Ny320.out] at ho4 | (simp only [Int.reduceToNat] at ho4; rw [← Ny320.out] at ho4)); have HO322 := as_ (Kd.R_lower ho4 (below_size bA)); replace HB := as_ (below_step bA hb); clear hb ho4))
 go_loopg [5, 6, 7] k (fun kq v5 v6 v7 w' => ∃ (x5_1 : List ByteArray) (x6_1 : Int) (x7_1 : Int), v6 = .int .i64 x6_1 ∧ v7 = .int .i64 x7_1 ∧ Aside0 (withyref17_Up.l0 kq l0 l1 x5_1 x6_1 x7_1 = some r) ∧ Aside0 (kq ≤ k) ∧ Aside0 (Kd.R Kd.string 9 w' w.heap.size (fun _ => True) v5 x5_1) ∧ Aside0 (Below w.heap.size w w'))
 case atStart => exact ⟨(y320), (0), (0), (by first | rfl | (simp; done) | (simp [*]; done)), (by first | rfl | (simp; done) | (simp [*]; done)), H', ⟨Nat.le_refl _⟩, ⟨by (with_reducible repeat (first | apply Kd.R_alloc | apply Kd.R_drewN | apply Kd.R_drew)); exact HO322.out⟩, ⟨by repeat (first | (with_reducible first | exact HB.out | apply below_alloc | apply pw_below_drewN | apply below_drew1) | exact HB.out)⟩⟩
 case round =>
  clear H'
  try clear c1
  try clear p2
  obtain ⟨x5_1, x6_1, x7_1, rfl, rfl, HA, HK1, HO_5, HB⟩ := hrel
  cases gk with
  | zero => exact absurd HA.out (by simp [withyref17_Up.l0])
  | succ k1 =>
   have H := HA.out
   clear HA
   simp only [withyref17_Up.l0] at H
   by_cases c5 : (wrap64 (x7_1 + 1)) < (l1.length : Int)
   rotate_left
   ·rw [if_neg c5] at H
    have c5b0 : decide ((wrap64 (x7_1 + 1)) < (l1.length : Int)) = false := decide_eq_false c5
    clear c5
    obtain rfl := Option.some.inj H
    go_wp2
    go_ret
    exact ⟨_, eW, by (with_reducible repeat (first | apply Kd.R_alloc | apply Kd.R_drewN | apply Kd.R_drew)); exact HO_5.out, by repeat (first | (with_reducible first | exact HB.out | apply below_alloc | apply pw_below_drewN | apply below_drew1) | exact HB.out)⟩
 
   rw [if_pos c5] at H
   have c5b0 : decide ((wrap64 (x7_1 + 1)) < (l1.length : Int)) = true := decide_eq_true c5
   clear c5
   by_cases c6 : 0 ≤ x7_1
   rotate_left
   ·rw [if_neg c6] at H
    exact absurd H (by simp)
   rw [if_pos c6] at H
   have c6b0 : decide (0 ≤ x7_1) = true := decide_eq_true c6
   clear c6
   by_cases c7 : x7_1 < (l1.length : Int)
   rotate_left
   ·rw [if_neg c7] at H
    exact absurd H (by simp)
   rw [if_pos c7] at H
   have c7b0 : decide (x7_1 < (l1.length : Int)) = true := decide_eq_true c7
   clear c7
   obtain ⟨ji8, hji8⟩ : ∃ j_ : Int, (wrap64 ((wrap64 (x6_1 + (rd l1 x7_1))) - 1)) = j_ := ⟨_, rfl⟩
   replace H : (if 0 ≤ (ji8) then (if (ji8) < (l0.length : Int) then (if x5_1.length < 8796093022208 then (withyref17_Up.l0 k1 l0 l1 (x5_1 ++ [rdOf ByteArray.empty l0 (ji8)]) (wrap64 (x6_1 + (rd l1 x7_1))) (wrap64 (x7_1 + 1))) else (none)) else (none)) else (none)) = some r := by first | (rw [hji8] at H; exact H) | (simp only [hji8] at H ⊢; exact H)
   have hji8w : (IntKind.i64.wrap ((wrap64 (x6_1 + (rd l1 x7_1))) - 1)) = ji8 := (i64_w _).trans hji8
   by_cases c9 : 0 ≤ (ji8)
   rotate_left
   ·rw [if_neg c9] at H
    exact absurd H (by simp)
   rw [if_pos c9] at H
   have c9b0 : decide (0 ≤ (ji8)) = true := decide_eq_true c9
   clear c9
   by_cases c10 : (ji8) < (l0.length : Int)
   rotate_left
   ·rw [if_neg c10] at H
    exact absurd H (by simp)
   rw [if_pos c10] at H
   have c10b0 : decide ((ji8) < (l0.length : Int)) = true := decide_eq_true c10
   clear c10
   by_cases c11 : x5_1.length < 8796093022208
   rotate_left
   ·rw [if_neg c11] at H
    exact absurd H (by simp)
   rw [if_pos c11] at H
   have LMc11 := Aside0.mk c11
   clear c11
   obtain ⟨y325, hy325⟩ : ∃ y_ : List ByteArray, y_ = (x5_1 ++ [rdOf ByteArray.empty l0 (ji8)]) := ⟨_, rfl⟩
   replace H : (withyref17_Up.l0 k1 l0 l1 y325 (wrap64 (x6_1 + (rd l1 x7_1))) (wrap64 (x7_1 + 1))) = some r := by first | (rw [hy325]; with_reducible exact H) | (have H2_ := (Option.bind_some _ _).symm.trans H; rw [hy325]; with_reducible exact H2_) | (have H2_ := (Option.bind_some _ _).symm.trans H; with_reducible exact H2_) | with_reducible exact H | (rw [hy325]; exact H) | exact H
   have Ny325 := Aside0.mk hy325
   clear hy325
   have H' := Aside0.mk H
   clear H
   have p323 : 0 ≤ (x7_1 : Int) := of_decide_eq_true aM
   have q323 : x7_1 < (l1.length : Int) := of_decide_eq_true aM
   obtain ⟨ad323, e323, hx323_0⟩ := Kd.at_int HR1.out x7_1 p323 q323
   cases e323
   replace hx323_0 := (HB.out.cell (World.block_lt_of_cell? w _ hx323_0)).trans hx323_0
   replace p323 := eq_true p323
   replace q323 := eq_true q323
   have p324 : 0 ≤ ((ji8) : Int) := of_decide_eq_true aM
   have q324 : (ji8) < (l0.length : Int) := of_decide_eq_true aM
   obtain ⟨ad324, e324, hx324_0⟩ := Kd.at_string HR0.out (ji8) p324 q324
   cases e324
   replace hx324_0 := (HB.out.cell (World.block_lt_of_cell? w _ hx324_0)).trans hx324_0
   replace p324 := eq_true p324
   replace q324 := eq_true q324
   go_wp2_with (first | ((with_reducible refine gate_builtin (b := .append) (xs := #[.tmp 22, .tmp 28]) rfl ?_); at_builtin; refine Kd.R_append Kd.string (w0 := w) w.heap.size rfl (.tmp 22) (.tmp 28) 22 9 (.string ⟨#[]⟩) 16 rfl Try.underlying22 info9 rfl (by decide) (by omega) u5 x5_1 (rdOf ByteArray.empty l0 (ji8)) [.string (rdOf ByteArray.empty l0 (ji8))] (fun _ => True) (fun _ => False) rfl rfl ?aP (fun _ hk => hk.elim) ?aF ?aO ?aB ?aS ?aL ?_; (case aP => exact rfl); (case aB => exact bA); (case aF => exact (fun _ _ => trivial)); (case aO => exact (by (with_reducible repeat (first | apply Kd.R_alloc | apply Kd.R_drewN | apply Kd.R_drew)); exact HO_5.out)); (case aS => exact (below_size bA)); (case aL => have := LMc11.out; omega); intro v326 w12 ho hb hg hat; rw [← Ny325.out] at ho; have HO327 := as_ (ho); replace HB := as_ (hb); clear HO_5; clear ho hb hg hat))
   go_roundg k1
   case measure => have := HK1.out; omega
   case rel => exact ⟨(y325), (wrap64 (x6_1 + (rd l1 x7_1))), (wrap64 (x7_1 + 1)), (by first | rfl | (simp; done) | (simp [*]; done)), (by first | rfl | (simp; done) | (simp [*]; done)), H', ⟨by have := HK1.out; omega⟩, ⟨by (with_reducible repeat (first | apply Kd.R_alloc | apply Kd.R_drewN | apply Kd.R_drew)); exact HO327.out⟩, ⟨by repeat (first | (with_reducible first | exact HB.out | apply below_alloc | apply pw_below_drewN | apply below_drew1) | exact HB.out)⟩⟩
/-! ### withylaw17_lists: function 20 -/
def withylaw17_lists.l0 : Nat → List (List ByteArray) → List (List ByteArray) → Int → Option (Bool)
 | 0, _, _, _ => none
 | k + 1, x0, x1, x5 => if x5 < (x0.length : Int) then (if 0 ≤ x5 then (if x5 < (x1.length : Int) then ((withyref01_Words.f k (rd_L5 x0 x5) (rd_L5 x1 x5)).bind fun t330 => (if t330 = true then (withylaw17_lists.l0 k x0 x1 (wrap64 (x5 + 1))) else (some false))) else (none)) else (none)) else (some true)
def withylaw17_lists.f (k : Nat) (l0 : List (List ByteArray)) (l1 : List (List ByteArray)) : Option (Bool) := if (l0.length : Int) = (l1.length : Int) then (withylaw17_lists.l0 k l0 l1 0) else (some false)
theorem withylaw17_lists.mono_l : ∀ k, (∀ y0 y1 y2, LeO (withylaw17_lists.l0 k y0 y1 y2) (withylaw17_lists.l0 (k + 1) y0 y1 y2))
 | 0 => fun _ _ _ r h => by simp [withylaw17_lists.l0] at h
 | k + 1 => by
  have ih0 := withylaw17_lists.mono_l k
  ·intro y0 y1 y2
   unfold withylaw17_lists.l0
   repeat' first
   | (with_reducible exact ih0 _ _ _)
   | (with_reducible exact withyref01_Words.mono _ _ _)
   | (with_reducible exact LeO.refl _)
   | (with_reducible exact LeO.none _)
   | (with_reducible refine LeO.ite ?_ ?_)
   | (with_reducible refine LeO.bind ?_ (fun _ => ?_))
   | exact ih0 _ _ _
   | exact withyref01_Words.mono _ _ _
   | exact LeO.none _
   | refine LeO.ite ?_ ?_
   | refine LeO.bind ?_ (fun _ => ?_)
theorem withylaw17_lists.mono : ∀ a0 a1 k, LeO (withylaw17_lists.f k a0 a1) (withylaw17_lists.f (k + 1) a0 a1) := by
 intro a0 a1 k
 have ih0 := withylaw17_lists.mono_l k
 unfold withylaw17_lists.f
 repeat' first
   | (with_reducible exact ih0 _ _ _)
   | (with_reducible exact withyref01_Words.mono _ _ _)
   | (with_reducible exact LeO.refl _)
   | (with_reducible exact LeO.none _)
   | (with_reducible refine LeO.ite ?_ ?_)
   | (with_reducible refine LeO.bind ?_ (fun _ => ?_))
   | exact ih0 _ _ _
   | exact withyref01_Words.mono _ _ _
   | exact LeO.none _
   | refine LeO.ite ?_ ?_
   | refine LeO.bind ?_ (fun _ => ?_)
set_option maxHeartbeats 8000000 in
set_option maxRecDepth 100000 in
theorem withylaw17_lists.calls (k : Nat) (A0 : Option Addr) (c0 : Nat) (l0 : List (List ByteArray)) (A1 : Option Addr) (c1 : Nat) (l1 : List (List ByteArray)) (r : Bool) (w : World) (hr0 : Kd.C (Kd.slice 9 Kd.string) w A0 l0.length l0) (hc0 : l0.length ≤ c0) (hr1 : Kd.C (Kd.slice 9 Kd.string) w A1 l1.length l1) (hc1 : l1.length ≤ c1) (h : withylaw17_lists.f k l0 l1 = some r) :
  Calls Try.prog 20 #[.slice A0 l0.length c0, .slice A1 l1.length c1] w fun e w' => e = .returned (.bool r) ∧ Drawn0 w w' := by
 have HR0 := Aside0.mk hr0
 have HC0 := Aside0.mk hc0
 clear hr0 hc0
 have HR1 := Aside0.mk hr1
 have HC1 := Aside0.mk hc1
 clear hr1 hc1
 have H : (if (l0.length : Int) = (l1.length : Int) then (withylaw17_lists.l0 k l0 l1 0) else (some false)) = some r := h
 clear h
 by_cases c3 : (l0.length : Int) = (l1.length : Int)
 rotate_left
 ·rw [if_neg c3] at H
  have c3b0 : ((l0.length : Int) == (l1.length : Int)) = false := beq_eq_false_iff_ne.mpr c3
  have c3b1 : ((l0.length : Int) != (l1.length : Int)) = true := bne_iff_ne.mpr c3
  have c3b2 : (l0.length == l1.length) = false := by first | simpa using c3 | (simp at c3 ⊢; omega)
  obtain rfl := Option.some.inj H
  go_enter Try.func20, Try.ntmps20
  go_wp2
  repeat (go_quiet (fail); try go_wp2)
  go_ret
  exact ⟨by first | rfl | (simp; done) | (simp [*]; done), by repeat (first | exact Drawn0.refl _ | apply Drawn0.step)⟩
 
 rw [if_pos c3] at H
 have c3b0 : ((l0.length : Int) == (l1.length : Int)) = true := beq_iff_eq.mpr c3
 have c3b1 : ((l0.length : Int) != (l1.length : Int)) = false := bne_eq_false_iff_eq.mpr c3
 have c3b2 : (l0.length == l1.length) = true := by first | simpa using c3 | (simp at c3 ⊢; omega)
 clear c3
 have H' := Aside0.mk H
 clear H
 go_enter Try.func20, Try.ntmps20
 go_wp2
 repeat (go_quiet (fail); try go_wp2)
 go_loopg [5] k (fun kq v5 w' => ∃ (x5_1 : Int), v5 = .int .i64 x5_1 ∧ Aside0 (withylaw17_lists.l0 kq l0 l1 x5_1 = some r) ∧ Aside0 (kq ≤ k) ∧ Drawn0 w w')
 case atStart => exact ⟨(0), (by first | rfl | (simp; done) | (simp [*]; done)), H', ⟨Nat.le_refl _⟩, by repeat (first | exact Drawn0.refl _ | apply Drawn0.step)⟩
 case round =>
  clear H'
  try clear c1
  try clear c2
  try clear p2
  try clear c3
  try clear c3b0
  try clear c3b1
  try clear c3b2
  obtain ⟨x5_1, rfl, HA, HK1, ⟨m1, rfl⟩⟩ := hrel
  cases gk with
  | zero => exact absurd HA.out (by simp [withylaw17_lists.l0])
  | succ k1 =>
   have H := HA.out
   clear HA
   simp only [withylaw17_lists.l0] at H
   by_cases c4 : x5_1 < (l0.length : Int)
   rotate_left
   ·rw [if_neg c4] at H
    have c4b0 : decide (x5_1 < (l0.length : Int)) = false := decide_eq_false c4
    clear c4
    obtain rfl := Option.some.inj H
    go_wp2
    repeat (go_quiet (fail); try go_wp2)
    go_ret
    exact ⟨by first | rfl | (simp; done) | (simp [*]; done), by repeat (first | exact Drawn0.refl _ | apply Drawn0.step)⟩
   rw [if_pos c4] at H
   have c4b0 : decide (x5_1 < (l0.length : Int)) = true := decide_eq_true c4
   clear c4
   by_cases c5 : 0 ≤ x5_1
   rotate_left
   ·rw [if_neg c5] at H
    exact absurd H (by simp)
   rw [if_pos c5] at H
   have c5b0 : decide (0 ≤ x5_1) = true := decide_eq_true c5
   clear c5
   by_cases c6 : x5_1 < (l1.length : Int)
   rotate_left
   ·rw [if_neg c6] at H
    exact absurd H (by simp)
   rw [if_pos c6] at H
   have c6b0 : decide (x5_1 < (l1.length : Int)) = true := decide_eq_true c6
   clear c6
   replace H := bM H
   obtain ⟨t330, A70, H⟩ := H
   replace H : (if t330 = true then (withylaw17_lists.l0 k1 l0 l1 (wrap64 (x5_1 + 1))) else (some false)) = some r := H
   have A7 := Aside0.mk A70
   clear A70
   by_cases c8 : t330 = true
   rotate_left
   ·replace c8 := Bool.eq_false_iff.mpr c8
    subst c8
    have H1 : (some false) = some r := by rw [if_neg (show ¬ (false = true) by decide)] at H; exact H
    clear H
    have H := H1
    clear H1
    obtain rfl := Option.some.inj H
    have p328 : 0 ≤ (x5_1 : Int) := of_decide_eq_true aM
    have q328 : x5_1 < (l0.length : Int) := of_decide_eq_true aM
    obtain ⟨ad328, A328_0, c328_0, e328, hx328_0, hl328_0, hi328_0⟩ := at_L5 HR0.out x5_1 p328 q328
    cases e328
    have HR328_0 := Aside0.mk hi328_0
    have HC328_0 := Aside0.mk hl328_0
    clear hi328_0 hl328_0
    replace p328 := eq_true p328
    replace q328 := eq_true q328
    have p329 : 0 ≤ (x5_1 : Int) := of_decide_eq_true aM
    have q329 : x5_1 < (l1.length : Int) := of_decide_eq_true aM
    obtain ⟨ad329, A329_0, c329_0, e329, hx329_0, hl329_0, hi329_0⟩ := at_L5 HR1.out x5_1 p329 q329
    cases e329
    have HR329_0 := Aside0.mk hi329_0
    have HC329_0 := Aside0.mk hl329_0
    clear hi329_0 hl329_0
    replace p329 := eq_true p329
    replace q329 := eq_true q329
    go_wp2_with (first | (go_at_call 17; (with_reducible refine (withyref01_Words.calls k1 _ _ (rd_L5 l0 x5_1) _ _ (rd_L5 l1 x5_1) false _ ?side1 ?side2 ?side3 ?side4 A7.out).mono ?_); (case side1 => repeat (first | exact HR328_0.out | (with_reducible refine Kd.C_alloc ?_ _) | (with_reducible refine Kd.C_drewN ?_ _) | (with_reducible refine Kd.C_drew ?_))); (case side2 => exact HC328_0.out); (case side3 => repeat (first | exact HR329_0.out | (with_reducible refine Kd.C_alloc ?_ _) | (with_reducible refine Kd.C_drewN ?_ _) | (with_reducible refine Kd.C_drew ?_))); (case side4 => exact HC329_0.out); rintro e w' ⟨rfl, ⟨nd, rfl⟩⟩; (try first | exact ⟨rfl, _, World.drewN_drewN _ _ _⟩ | exact ⟨rfl, _, Eq.trans (World.drewN_drewN _ _ _) (congrArg (World.drewN _) (Nat.add_assoc _ _ _))⟩)))
    repeat (go_quiet (first | (go_at_call 17; (with_reducible refine (withyref01_Words.calls k1 _ _ (rd_L5 l0 x5_1) _ _ (rd_L5 l1 x5_1) false _ ?side1 ?side2 ?side3 ?side4 A7.out).mono ?_); (case side1 => repeat (first | exact HR328_0.out | (with_reducible refine Kd.C_alloc ?_ _) | (with_reducible refine Kd.C_drewN ?_ _) | (with_reducible refine Kd.C_drew ?_))); (case side2 => exact HC328_0.out); (case side3 => repeat (first | exact HR329_0.out | (with_reducible refine Kd.C_alloc ?_ _) | (with_reducible refine Kd.C_drewN ?_ _) | (with_reducible refine Kd.C_drew ?_))); (case side4 => exact HC329_0.out); rintro e w' ⟨rfl, ⟨nd, rfl⟩⟩; (try first | exact ⟨rfl, _, World.drewN_drewN _ _ _⟩ | exact ⟨rfl, _, Eq.trans (World.drewN_drewN _ _ _) (congrArg (World.drewN _) (Nat.add_assoc _ _ _))⟩))); try go_wp2_with (first | (go_at_call 17; (with_reducible refine (withyref01_Words.calls k1 _ _ (rd_L5 l0 x5_1) _ _ (rd_L5 l1 x5_1) false _ ?side1 ?side2 ?side3 ?side4 A7.out).mono ?_); (case side1 => repeat (first | exact HR328_0.out | (with_reducible refine Kd.C_alloc ?_ _) | (with_reducible refine Kd.C_drewN ?_ _) | (with_reducible refine Kd.C_drew ?_))); (case side2 => exact HC328_0.out); (case side3 => repeat (first | exact HR329_0.out | (with_reducible refine Kd.C_alloc ?_ _) | (with_reducible refine Kd.C_drewN ?_ _) | (with_reducible refine Kd.C_drew ?_))); (case side4 => exact HC329_0.out); rintro e w' ⟨rfl, ⟨nd, rfl⟩⟩; (try first | exact ⟨rfl, _, World.drewN_drewN _ _ _⟩ | exact ⟨rfl, _, Eq.trans (World.drewN_drewN _ _ _) (congrArg (World.drewN _) (Nat.add_assoc _ _ _))⟩))))
    go_ret
    exact ⟨by first | rfl | (simp; done) | (simp [*]; done), by repeat (first | exact Drawn0.refl _ | apply Drawn0.step)⟩
   subst c8
   have H1 : (withylaw17_lists.l0 k1 l0 l1 (wrap64 (x5_1 + 1))) = some r := by rw [if_pos rfl] at H; exact H
   clear H
   have H := H1
   clear H1
   have H' := Aside0.mk H
   clear H
   have p328 : 0 ≤ (x5_1 : Int) := of_decide_eq_true aM
   have q328 : x5_1 < (l0.length : Int) := of_decide_eq_true aM
   obtain ⟨ad328, A328_0, c328_0, e328, hx328_0, hl328_0, hi328_0⟩ := at_L5 HR0.out x5_1 p328 q328
   cases e328
   have HR328_0 := Aside0.mk hi328_0
   have HC328_0 := Aside0.mk hl328_0
   clear hi328_0 hl328_0
   replace p328 := eq_true p328
   replace q328 := eq_true q328
   have p329 : 0 ≤ (x5_1 : Int) := of_decide_eq_true aM
   have q329 : x5_1 < (l1.length : Int) := of_decide_eq_true aM
   obtain ⟨ad329, A329_0, c329_0, e329, hx329_0, hl329_0, hi329_0⟩ := at_L5 HR1.out x5_1 p329 q329
   cases e329
   have HR329_0 := Aside0.mk hi329_0
   have HC329_0 := Aside0.mk hl329_0
   clear hi329_0 hl329_0
   replace p329 := eq_true p329
   replace q329 := eq_true q329
   go_wp2_with (first | (go_at_call 17; (with_reducible refine (withyref01_Words.calls k1 _ _ (rd_L5 l0 x5_1) _ _ (rd_L5 l1 x5_1) true _ ?side1 ?side2 ?side3 ?side4 A7.out).mono ?_); (case side1 => repeat (first | exact HR328_0.out | (with_reducible refine Kd.C_alloc ?_ _) | (with_reducible refine Kd.C_drewN ?_ _) | (with_reducible refine Kd.C_drew ?_))); (case side2 => exact HC328_0.out); (case side3 => repeat (first | exact HR329_0.out | (with_reducible refine Kd.C_alloc ?_ _) | (with_reducible refine Kd.C_drewN ?_ _) | (with_reducible refine Kd.C_drew ?_))); (case side4 => exact HC329_0.out); rintro e w' ⟨rfl, ⟨nd, rfl⟩⟩; (try first | exact ⟨rfl, _, World.drewN_drewN _ _ _⟩ | exact ⟨rfl, _, Eq.trans (World.drewN_drewN _ _ _) (congrArg (World.drewN _) (Nat.add_assoc _ _ _))⟩)))
   repeat (go_quiet (first | (go_at_call 17; (with_reducible refine (withyref01_Words.calls k1 _ _ (rd_L5 l0 x5_1) _ _ (rd_L5 l1 x5_1) true _ ?side1 ?side2 ?side3 ?side4 A7.out).mono ?_); (case side1 => repeat (first | exact HR328_0.out | (with_reducible refine Kd.C_alloc ?_ _) | (with_reducible refine Kd.C_drewN ?_ _) | (with_reducible refine Kd.C_drew ?_))); (case side2 => exact HC328_0.out); (case side3 => repeat (first | exact HR329_0.out | (with_reducible refine Kd.C_alloc ?_ _) | (with_reducible refine Kd.C_drewN ?_ _) | (with_reducible refine Kd.C_drew ?_))); (case side4 => exact HC329_0.out); rintro e w' ⟨rfl, ⟨nd, rfl⟩⟩; (try first | exact ⟨rfl, _, World.drewN_drewN _ _ _⟩ | exact ⟨rfl, _, Eq.trans (World.drewN_drewN _ _ _) (congrArg (World.drewN _) (Nat.add_assoc _ _ _))⟩))); try go_wp2_with (first | (go_at_call 17; (with_reducible refine (withyref01_Words.calls k1 _ _ (rd_L5 l0 x5_1) _ _ (rd_L5 l1 x5_1) true _ ?side1 ?side2 ?side3 ?side4 A7.out).mono ?_); (case side1 => repeat (first | exact HR328_0.out | (with_reducible refine Kd.C_alloc ?_ _) | (with_reducible refine Kd.C_drewN ?_ _) | (with_reducible refine Kd.C_drew ?_))); (case side2 => exact HC328_0.out); (case side3 => repeat (first | exact HR329_0.out | (with_reducible refine Kd.C_alloc ?_ _) | (with_reducible refine Kd.C_drewN ?_ _) | (with_reducible refine Kd.C_drew ?_))); (case side4 => exact HC329_0.out); rintro e w' ⟨rfl, ⟨nd, rfl⟩⟩; (try first | exact ⟨rfl, _, World.drewN_drewN _ _ _⟩ | exact ⟨rfl, _, Eq.trans (World.drewN_drewN _ _ _) (congrArg (World.drewN _) (Nat.add_assoc _ _ _))⟩))))
   go_roundg k1
   case measure => have := HK1.out; omega
   case rel => exact ⟨(wrap64 (x5_1 + 1)), (by first | rfl | (simp; done) | (simp [*]; done)), H', ⟨by have := HK1.out; omega⟩, by repeat (first | exact Drawn0.refl _ | apply Drawn0.step)⟩
end Go.Proofs.Ytfialmegikegbaa.P
