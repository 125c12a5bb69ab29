/- What is proved here: for functions of the Go text, a Lean function each, and that the call comes to just what it answers. Conditions: as each contract names them. Written by wip/tools/myprint.py, a driver of the print of the kit. -/
import Derived.Test.YtfialmegikegbaaP0
import Derived.Test.YtfialmegikegbaaP1
import Derived.Test.YtfialmegikegbaaP4
import Derived.Test.YtfialmegikegbaaP6
import Derived.Test.YtfialmegikegbaaP9
import Derived.Test.YtfialmegikegbaaWAbbr
namespace Go.Proofs.Ytfialmegikegbaa.P
open Go.RowKit Go.Proofs.YtfialmegikegbaaW.PrintWords Go.Proofs.YtfialmegikegbaaW.PrintLast Go.Proofs.YtfialmegikegbaaW.PrintMore Go.Proofs.YtfialmegikegbaaW.Abbr
-- PACKED
attribute [local go_sem] max2_int min2_int max_two min_two max_three min_three max_four min_four Go.Proofs.YtfialmegikegbaaLaws.str_leq Go.Proofs.YtfialmegikegbaaLaws.str_gtr Go.Proofs.YtfialmegikegbaaLaws.str_geq Go.Proofs.YtfialmegikegbaaLaws.max2_str Go.Proofs.YtfialmegikegbaaLaws.min2_str   -- for this text's walks alone
set_option linter.unusedVariables false
set_option linter.unusedSimpArgs false

/-! ### withylaw17_place: function 28 -/
def withylaw17_place.l0 : Nat → List ByteArray → Int → Int → Int → Int → Int → Int → Int → ByteArray → List Int → List ByteArray → Option (Int)
 | 0, _, _, _, _, _, _, _, _, _, _, _ => none
 | k + 1, x0, x1, x2, x3, x10, x424000, x424001, x424002, x424003, x424004, x424005 => if x10 < x2 then (if x424004.length < 17592186044416 then (withylaw17_place.l0 k x0 x1 x2 x3 (wrap64 (x10 + 1)) x424000 x424001 x424002 x424003 (x424004 ++ [3]) x424005) else (none)) else (if (wrap64 (x1 + x2)) ≤ (x0.length : Int) then (if 0 ≤ (wrap64 ((wrap64 (x1 + x2)) - 1)) then (if (wrap64 ((wrap64 (x1 + x2)) - 1)) < (x0.length : Int) then ((inner_Encode.f k x424000 x424001 2 (rdOf ByteArray.empty x0 (wrap64 ((wrap64 (x1 + x2)) - 1))) x424004 x424005 x3).bind fun bt428 => (some bt428.2)) else (none)) else (none)) else ((inner_Encode.f k x424000 x424001 x424002 x424003 x424004 x424005 x3).bind fun bt430 => (some bt430.2)))
def withylaw17_place.f (k : Nat) (l0 : List ByteArray) (a1 : Int) (a2 : Int) (a3 : Int) : Option (Int) := (some (([] : List ByteArray) : List ByteArray)).bind fun y416 => (if 0 ≤ a1 then (if a1 ≤ (wrap64 ((wrap64 (a1 + a2)) - 1)) then (if (wrap64 ((wrap64 (a1 + a2)) - 1)) ≤ (l0.length : Int) then (if y416.length + ((l0.take ((wrap64 ((wrap64 (a1 + a2)) - 1)) : Int).toNat).drop (a1 : Int).toNat).length < 8796093022208 then (withylaw17_place.l0 k l0 a1 a2 a3 0 1 1 0 (⟨#[]⟩ : ByteArray) ([] : List Int) (y416 ++ ((l0.take ((wrap64 ((wrap64 (a1 + a2)) - 1)) : Int).toNat).drop (a1 : Int).toNat))) else (none)) else (none)) else (none)) else (none))
theorem withylaw17_place.mono_l : ∀ k, (∀ y0 y1 y2 y3 y4 y5 y6 y7 y8 y9 y10, LeO (withylaw17_place.l0 k y0 y1 y2 y3 y4 y5 y6 y7 y8 y9 y10) (withylaw17_place.l0 (k + 1) y0 y1 y2 y3 y4 y5 y6 y7 y8 y9 y10))
 | 0 => fun _ _ _ _ _ _ _ _ _ _ _ r h => by simp [withylaw17_place.l0] at h
 | k + 1 => by
  have ih0 := withylaw17_place.mono_l k
  ·intro y0 y1 y2 y3 y4 y5 y6 y7 y8 y9 y10
   unfold withylaw17_place.l0
   repeat' first
   | (with_reducible exact ih0 _ _ _ _ _ _ _ _ _ _ _)
   | (with_reducible exact inner_Encode.mono _ _ _ _ _ _ _ _)
   | (with_reducible exact LeO.refl _)
   | (with_reducible exact LeO.none _)
   | (with_reducible refine LeO.ite ?_ ?_)
   | (with_reducible refine LeO.bind ?_ (fun _ => ?_))
   | exact ih0 _ _ _ _ _ _ _ _ _ _ _
   | exact inner_Encode.mono _ _ _ _ _ _ _ _
   | exact LeO.none _
   | refine LeO.ite ?_ ?_
   | refine LeO.bind ?_ (fun _ => ?_)
theorem withylaw17_place.mono : ∀ a0 a1 a2 a3 k, LeO (withylaw17_place.f k a0 a1 a2 a3) (withylaw17_place.f (k + 1) a0 a1 a2 a3) := by
 intro a0 a1 a2 a3 k
 have ih0 := withylaw17_place.mono_l k
 unfold withylaw17_place.f
 repeat' first
   | (with_reducible exact ih0 _ _ _ _ _ _ _ _ _ _ _)
   | (with_reducible exact inner_Encode.mono _ _ _ _ _ _ _ _)
   | (with_reducible exact LeO.refl _)
   | (with_reducible exact LeO.none _)
   | (with_reducible refine LeO.ite ?_ ?_)
   | (with_reducible refine LeO.bind ?_ (fun _ => ?_))
   | exact ih0 _ _ _ _ _ _ _ _ _ _ _
   | exact inner_Encode.mono _ _ _ _ _ _ _ _
   | exact LeO.none _
   | refine LeO.ite ?_ ?_
   | refine LeO.bind ?_ (fun _ => ?_)
set_option maxHeartbeats 8000000 in
set_option maxRecDepth 100000 in
theorem withylaw17_place.calls (k : Nat) (A0 : Option Addr) (c0 : Nat) (l0 : List ByteArray) (a1 : Int) (a2 : Int) (a3 : Int) (r : Int) (w : World) (hr0 : Kd.C Kd.string w A0 l0.length l0) (hc0 : l0.length ≤ c0) (h : withylaw17_place.f k l0 a1 a2 a3 = some r) :
  Calls Try.prog 28 #[.slice A0 l0.length c0, .int .i64 a1, .int .i64 a2, .int .i64 a3] w fun e w' => e = .returned (.int .i64 r) ∧ Below w.heap.size w w' := by
 have hu50 := Try.underlying50
 have HR0 := Aside0.mk hr0
 have HC0 := Aside0.mk hc0
 clear hr0 hc0
 have HB := as_ (Below.refl w.heap.size w)
 have H : ((some (([] : List ByteArray) : List ByteArray)).bind fun y416 => (if 0 ≤ a1 then (if a1 ≤ (wrap64 ((wrap64 (a1 + a2)) - 1)) then (if (wrap64 ((wrap64 (a1 + a2)) - 1)) ≤ (l0.length : Int) then (if y416.length + ((l0.take ((wrap64 ((wrap64 (a1 + a2)) - 1)) : Int).toNat).drop (a1 : Int).toNat).length < 8796093022208 then (withylaw17_place.l0 k l0 a1 a2 a3 0 1 1 0 (⟨#[]⟩ : ByteArray) ([] : List Int) (y416 ++ ((l0.take ((wrap64 ((wrap64 (a1 + a2)) - 1)) : Int).toNat).drop (a1 : Int).toNat))) else (none)) else (none)) else (none)) else (none))) = some r := h
 clear h
 obtain ⟨y416, hy416⟩ : ∃ y_ : List ByteArray, y_ = (([] : List ByteArray)) := ⟨_, rfl⟩
 replace H : (if 0 ≤ a1 then (if a1 ≤ (wrap64 ((wrap64 (a1 + a2)) - 1)) then (if (wrap64 ((wrap64 (a1 + a2)) - 1)) ≤ (l0.length : Int) then (if y416.length + ((l0.take ((wrap64 ((wrap64 (a1 + a2)) - 1)) : Int).toNat).drop (a1 : Int).toNat).length < 8796093022208 then (withylaw17_place.l0 k l0 a1 a2 a3 0 1 1 0 (⟨#[]⟩ : ByteArray) ([] : List Int) (y416 ++ ((l0.take ((wrap64 ((wrap64 (a1 + a2)) - 1)) : Int).toNat).drop (a1 : Int).toNat))) else (none)) else (none)) else (none)) else (none)) = some r := by first | (rw [hy416]; with_reducible exact H) | (have H2_ := (Option.bind_some _ _).symm.trans H; rw [hy416]; with_reducible exact H2_) | (have H2_ := (Option.bind_some _ _).symm.trans H; with_reducible exact H2_) | with_reducible exact H | (rw [hy416]; exact H) | exact H
 have Ny416 := Aside0.mk hy416
 clear hy416
 by_cases c5 : 0 ≤ a1
 rotate_left
 ·rw [if_neg c5] at H
  exact absurd H (by simp)
 
 rw [if_pos c5] at H
 have c5b0 := eq_true c5
 have c5b1 : decide (0 ≤ a1) = true := decide_eq_true c5
 clear c5
 by_cases c6 : a1 ≤ (wrap64 ((wrap64 (a1 + a2)) - 1))
 rotate_left
 ·rw [if_neg c6] at H
  exact absurd H (by simp)
 rw [if_pos c6] at H
 have c6b0 := eq_true c6
 have c6b1 : decide (a1 ≤ (wrap64 ((wrap64 (a1 + a2)) - 1))) = true := decide_eq_true c6
 by_cases c7 : (wrap64 ((wrap64 (a1 + a2)) - 1)) ≤ (l0.length : Int)
 rotate_left
 ·rw [if_neg c7] at H
  exact absurd H (by simp)
 rw [if_pos c7] at H
 have c7b0 := eq_true c7
 have c7b1 : decide ((wrap64 ((wrap64 (a1 + a2)) - 1)) ≤ (l0.length : Int)) = true := decide_eq_true c7
 by_cases c8 : y416.length + ((l0.take ((wrap64 ((wrap64 (a1 + a2)) - 1)) : Int).toNat).drop (a1 : Int).toNat).length < 8796093022208
 rotate_left
 ·rw [if_neg c8] at H
  exact absurd H (by simp)
 rw [if_pos c8] at H
 have LMc8 := Aside0.mk c8
 clear c8
 obtain ⟨y420, hy420⟩ : ∃ y_ : List ByteArray, y_ = (y416 ++ ((l0.take ((wrap64 ((wrap64 (a1 + a2)) - 1)) : Int).toNat).drop (a1 : Int).toNat)) := ⟨_, rfl⟩
 replace H : (withylaw17_place.l0 k l0 a1 a2 a3 0 1 1 0 (⟨#[]⟩ : ByteArray) ([] : List Int) y420) = some r := by first | (rw [hy420]; with_reducible exact H) | (have H2_ := (Option.bind_some _ _).symm.trans H; rw [hy420]; with_reducible exact H2_) | (have H2_ := (Option.bind_some _ _).symm.trans H; with_reducible exact H2_) | with_reducible exact H | (rw [hy420]; exact H) | exact H
 have Ny420 := Aside0.mk hy420
 clear hy420
 have H' := Aside0.mk H
 clear H
 go_enter Try.func28, Try.ntmps28
 go_wp2_with (first | ((with_reducible refine gate_dst (N := 13) rfl ?_); refine Kd.R_lit Kd.string _ 9 ?hg (N := 13) ?hd (xs := ([] : List ByteArray)) (inner := []) (ok := fun _ => True) (okp := fun _ => True) ?hr ?hp (fun _ hk => hk) trivial (Below.refl _ _) (Nat.le_refl _) (by simp) ?_; (case hd => rfl); (case hg => rfl); (case hr => first | (go_simp; done) | (go_simp; rfl)); (case hp => exact (Reps.none _ _)); intro v417 w9 ho10 hb hg_ hnew_; clear hg_ hnew_; (first | rw [← Ny416.out] at ho10 | (simp only [Int.reduceToNat] at ho10; rw [← Ny416.out] at ho10)); have HO418 := as_ (Kd.R_lower ho10 (below_size bA)); replace HB := as_ (below_step bA hb); clear hb ho10; obtain ⟨i011, hi011, _, hsz11, _⟩ := info_parts info9; obtain ⟨A11, hcut11, hA11, hC11⟩ := print_mid_of (P := Try.prog) Value.string (⟨#[]⟩ : ByteArray) 22 9 .i64 .i64 Try.underlying22 hi011 hsz11 A0 c0 l0 a1 (wrap64 ((wrap64 (a1 + a2)) - 1)) (of_decide_eq_true aM) (by first | omega | exact of_decide_eq_true aM) (of_decide_eq_true aM) HC0.out; have HR419 := as_ (Kd.C_of_reads (h1 := fun _ => rfl) (hA11 _ (Kd.reads_of_C HR0.out))); have HC419 := Aside0.mk hC11; clear hA11 hC11 hi011 hsz11) | ((with_reducible refine gate_builtin (b := .append) (xs := #[.tmp 13, .tmp 20]) rfl ?_); at_builtin; refine Kd.R_append_rows Kd.string (w0 := w) w.heap.size rfl (.tmp 13) (.tmp 20) 22 9 (.string ⟨#[]⟩) 16 rfl Try.underlying22 info9 rfl (by decide) (by omega) v417 y416 ((l0.take ((wrap64 ((wrap64 (a1 + a2)) - 1)) : Int).toNat).drop (a1 : Int).toNat) _ _ _ (fun _ => True) (fun _ => False) rfl rfl ?aO ?aR (fun _ _ h => h) (fun _ h => h.elim) ?aF ?aB ?aS ?aL ?_; (case aR => first | (rw [← show ((l0.take ((wrap64 ((wrap64 (a1 + a2)) - 1)) : Int).toNat).drop (a1 : Int).toNat).length = ((wrap64 ((wrap64 (a1 + a2)) - 1)).toNat - a1.toNat) from (by rw [List.length_drop, List.length_take]; have h_ : ((wrap64 ((wrap64 (a1 + a2)) - 1)) : Int) ≤ (l0.length : Int) := of_decide_eq_true aM; omega)]; repeat (first | exact (Kd.C_below HR419.out HB.out) | (with_reducible refine Kd.C_alloc ?_ _) | (with_reducible refine Kd.C_drewN ?_ _) | (with_reducible refine Kd.C_drew ?_))) | (repeat (first | exact (Kd.C_below HR419.out HB.out) | (with_reducible refine Kd.C_alloc ?_ _) | (with_reducible refine Kd.C_drewN ?_ _) | (with_reducible refine Kd.C_drew ?_)))); (case aB => exact bA); (case aF => exact (fun _ _ => trivial)); (case aO => exact (by (with_reducible repeat (first | apply Kd.R_alloc | apply Kd.R_drewN | apply Kd.R_drew)); exact HO418.out)); (case aS => exact (below_size bA)); (case aL => have := LMc8.out; have hlx_ := (show ((l0.take ((wrap64 ((wrap64 (a1 + a2)) - 1)) : Int).toNat).drop (a1 : Int).toNat).length = ((wrap64 ((wrap64 (a1 + a2)) - 1)).toNat - a1.toNat) from (by rw [List.length_drop, List.length_take]; have h_ : ((wrap64 ((wrap64 (a1 + a2)) - 1)) : Int) ≤ (l0.length : Int) := of_decide_eq_true aM; omega)); omega); intro v421 w12 ho hb hg hat; rw [← Ny420.out] at ho; have HO422 := as_ (ho); replace HB := as_ (hb); clear HO418; clear ho hb hg hat; obtain ⟨Ao13, co13, eo13⟩ := Kd.R_slice HO422.out; subst eo13) | ((with_reducible refine gate_dst (N := 9) rfl ?_); refine box_event ?hg (N := 9) ?hd (cs := #[.int .i64 0, .int .i64 0, .int .i64 0, .string (⟨#[]⟩ : ByteArray), .slice none 0 0, .slice none 0 0]) (t := 50) ?hr ?_; (case hd => rfl); (case hg => rfl); (case hr => first | (go_simp; done) | (go_simp; rfl)); intro gb423 hg w14 hbox hb; have BK423 := as_ (hbox); have GW423 := gw hg bA; have GE423 := gw hg bA; replace HO422 := as_ (Kd.R_below (by (with_reducible repeat (first | apply Kd.R_alloc | apply Kd.R_drewN | apply Kd.R_drew)); exact HO422.out) hb); replace HB := as_ (below_step bA hb); clear hb hbox hg; obtain ⟨hcz15_0, hcz15_1, hcz15_2, hcz15_3, hcz15_4, hcz15_5⟩ := zc6 BK423; obtain ⟨hfz15_0, hfz15_1, hfz15_2, hfz15_3, hfz15_4, hfz15_5⟩ := zf6 BK423))
 go_loopg [10] k (fun kq v10 w' => ∃ (x10_1 : Int) (x424004_1 : List Int) (u424004 : Value), v10 = .int .i64 x10_1 ∧ Aside0 (withylaw17_place.l0 kq l0 a1 a2 a3 x10_1 1 1 0 (⟨#[]⟩ : ByteArray) x424004_1 y420 = some r) ∧ Aside0 (kq ≤ k) ∧ Aside0 (Kd.R (Kd.int .i64) 3 w' w.heap.size (fun _ => True) u424004 x424004_1) ∧ Aside0 (Kd.R Kd.string 9 w' w.heap.size (fun _ => True) (.slice Ao13 y420.length co13) y420) ∧ Aside0 (w'.heap[gb423]? = some (.cells #[.int .i64 1, .int .i64 1, .int .i64 0, .string (⟨#[]⟩ : ByteArray), u424004, (.slice Ao13 y420.length co13)] 50 (0, 0))) ∧ Aside0 (Below w.heap.size w w'))
 case atStart => exact ⟨(0), (([] : List Int)), (.slice none 0 0), (by first | rfl | (simp; done) | (simp [*]; done)), H', ⟨Nat.le_refl _⟩, ⟨by first | exact Kd.R_nil _ _ _ _ _ | exact Kd.N_nil _ _ _ _ _ | exact Kd.V_nil _ _ _ _ _ | exact Kd.Q_nil _ _ _ _ _ | exact Kd.S_nil _ _ _ _ _⟩, ⟨by (with_reducible repeat (first | apply Kd.R_alloc | apply Kd.R_drewN | apply Kd.R_drew)); exact Kd.R_mono (Kd.R_far (p := ⟨gb423, 5, none⟩) (Kd.R_far (p := ⟨gb423, 4, none⟩) (Kd.R_far (p := ⟨gb423, 3, none⟩) (Kd.R_far (p := ⟨gb423, 2, none⟩) (Kd.R_far (p := ⟨gb423, 1, none⟩) (Kd.R_far (p := ⟨gb423, 0, none⟩) (Kd.R_types HO422.out BK423.out (by decide)) (fun _ hk => hk.2) (.int .i64 1)) (fun _ hk => hk.2) (.int .i64 1)) (fun _ hk => hk.2) (.int .i64 0)) (fun _ hk => hk.2) (.string (⟨#[]⟩ : ByteArray))) (fun _ hk => hk.2) (.slice none 0 0)) (fun _ hk => hk.2) (.slice Ao13 y420.length co13)) (fun _ hk => trivial)⟩, ⟨by refine bx ?_; refine blk_put (cs := #[.int .i64 1, .int .i64 1, .int .i64 0, .string (⟨#[]⟩ : ByteArray), .slice none 0 0, .slice none 0 0]) ?_ 5 _ rfl; refine bx ?_; refine blk_put (cs := #[.int .i64 1, .int .i64 1, .int .i64 0, .string (⟨#[]⟩ : ByteArray), .slice none 0 0, .slice none 0 0]) ?_ 4 _ rfl; refine bx ?_; refine blk_put (cs := #[.int .i64 1, .int .i64 1, .int .i64 0, .string (⟨#[]⟩ : ByteArray), .slice none 0 0, .slice none 0 0]) ?_ 3 _ rfl; refine bx ?_; refine blk_put (cs := #[.int .i64 1, .int .i64 1, .int .i64 0, .string (⟨#[]⟩ : ByteArray), .slice none 0 0, .slice none 0 0]) ?_ 2 _ rfl; refine bx ?_; refine blk_put (cs := #[.int .i64 1, .int .i64 0, .int .i64 0, .string (⟨#[]⟩ : ByteArray), .slice none 0 0, .slice none 0 0]) ?_ 1 _ rfl; refine bx ?_; refine blk_put (cs := #[.int .i64 0, .int .i64 0, .int .i64 0, .string (⟨#[]⟩ : ByteArray), .slice none 0 0, .slice none 0 0]) ?_ 0 _ rfl; refine bx ?_; exact BK423.out⟩, ⟨by repeat (first | (with_reducible first | exact HB.out | apply below_alloc | apply pw_below_drewN | apply below_drew1 | refine below_set ?_ GE423.out) | exact HB.out)⟩⟩
 case round =>
  clear H'
  try clear c2
  try clear p2
  try clear c5
  try clear c5b0
  try clear c5b1
  try clear c6
  try clear c6b0
  try clear c6b1
  try clear p6
  try clear c7
  try clear c7b0
  try clear c7b1
  try clear c8
  try clear hcz15_0
  try clear hcz15_1
  try clear hcz15_2
  try clear hcz15_3
  try clear hcz15_4
  try clear hcz15_5
  try clear hfz15_0
  try clear hfz15_1
  try clear hfz15_2
  try clear hfz15_3
  try clear hfz15_4
  try clear hfz15_5
  obtain ⟨x10_1, x424004_1, u424004, rfl, HA, HK1, HO_424004, HO_424005, BK423, HB⟩ := hrel
  cases gk with
  | zero => exact absurd HA.out (by simp [withylaw17_place.l0])
  | succ k1 =>
   have H := HA.out
   clear HA
   simp only [withylaw17_place.l0] at H
   by_cases c16 : x10_1 < a2
   ·rw [if_pos c16] at H
    have c16b0 : decide (x10_1 < a2) = true := decide_eq_true c16
    clear c16
    by_cases c17 : x424004_1.length < 17592186044416
    rotate_left
    ·rw [if_neg c17] at H
     exact absurd H (by simp)
    rw [if_pos c17] at H
    have LMc17 := Aside0.mk c17
    clear c17
    obtain ⟨y424, hy424⟩ : ∃ y_ : List Int, y_ = (x424004_1 ++ [3]) := ⟨_, rfl⟩
    replace H : (withylaw17_place.l0 k1 l0 a1 a2 a3 (wrap64 (x10_1 + 1)) 1 1 0 (⟨#[]⟩ : ByteArray) y424 y420) = some r := by first | (rw [hy424]; with_reducible exact H) | (have H2_ := (Option.bind_some _ _).symm.trans H; rw [hy424]; with_reducible exact H2_) | (have H2_ := (Option.bind_some _ _).symm.trans H; with_reducible exact H2_) | with_reducible exact H | (rw [hy424]; exact H) | exact H
    have Ny424 := Aside0.mk hy424
    clear hy424
    have H' := Aside0.mk H
    clear H
    obtain ⟨hcz18_0, hcz18_1, hcz18_2, hcz18_3, hcz18_4, hcz18_5⟩ := zc6 BK423
    obtain ⟨hfz18_0, hfz18_1, hfz18_2, hfz18_3, hfz18_4, hfz18_5⟩ := zf6 BK423
    go_wp2_with (first | ((with_reducible refine gate_builtin (b := .append) (xs := #[.tmp 29, .tmp 30]) rfl ?_); at_builtin; refine Kd.R_append (Kd.int .i64) (w0 := w) w.heap.size rfl (.tmp 29) (.tmp 30) 27 3 (.int .i64 0) 8 rfl Try.underlying27 info3 rfl (by decide) (by omega) u424004 x424004_1 3 [.int .i64 3] (fun _ => True) (fun _ => False) rfl rfl ?aP (fun _ hk => hk.elim) ?aF ?aO ?aB ?aS ?aL ?_; (case aP => exact rfl); (case aB => exact bA); (case aF => exact (fun _ _ => trivial)); (case aO => exact (by (with_reducible repeat (first | apply Kd.R_alloc | apply Kd.R_drewN | apply Kd.R_drew)); exact HO_424004.out)); (case aS => exact (below_size bA)); (case aL => have := LMc17.out; omega); intro v425 w19 ho hb hg hat; rw [← Ny424.out] at ho; have HO426 := as_ (ho); replace HO_424005 := as_ (Kd.R_over' (by (with_reducible repeat (first | apply Kd.R_alloc | apply Kd.R_drewN | apply Kd.R_drew)); exact HO_424005.out) (Kd.R_typed (by (with_reducible repeat (first | apply Kd.R_alloc | apply Kd.R_drewN | apply Kd.R_drew)); exact HO_424004.out)) (by decide) hg); replace BK423 := as_ (blk_grown (g := gb423) (o := .cells #[.int .i64 1, .int .i64 1, .int .i64 0, .string (⟨#[]⟩ : ByteArray), u424004, .slice Ao13 y420.length co13] 50 (0, 0)) (bk BK423) hg (Kd.R_ne HO_424004.out BK423.out (by decide))); replace HB := as_ (hb); clear HO_424004; clear ho hb hg hat; obtain ⟨Ao20, co20, eo20⟩ := Kd.R_slice HO426.out; subst eo20; obtain ⟨hcz21_0, hcz21_1, hcz21_2, hcz21_3, hcz21_4, hcz21_5⟩ := zc6 BK423; obtain ⟨hfz21_0, hfz21_1, hfz21_2, hfz21_3, hfz21_4, hfz21_5⟩ := zf6 BK423))
    go_roundg k1
    case measure => have := HK1.out; omega
    case rel => exact ⟨(wrap64 (x10_1 + 1)), (y424), (.slice Ao20 y424.length co20), (by first | rfl | (simp; done) | (simp [*]; done)), H', ⟨by have := HK1.out; omega⟩, ⟨by (with_reducible repeat (first | apply Kd.R_alloc | apply Kd.R_drewN | apply Kd.R_drew)); exact Kd.R_mono (Kd.R_far (p := ⟨gb423, 4, none⟩) (Kd.R_types HO426.out BK423.out (by decide)) (fun _ hk => hk.2) (.slice Ao20 y424.length co20)) (fun _ hk => trivial)⟩, ⟨by (with_reducible repeat (first | apply Kd.R_alloc | apply Kd.R_drewN | apply Kd.R_drew)); exact Kd.R_mono (Kd.R_far (p := ⟨gb423, 4, none⟩) (Kd.R_types HO_424005.out BK423.out (by decide)) (fun _ hk => hk.2) (.slice Ao20 y424.length co20)) (fun _ hk => trivial)⟩, ⟨by refine bx ?_; refine blk_put (cs := #[.int .i64 1, .int .i64 1, .int .i64 0, .string (⟨#[]⟩ : ByteArray), u424004, .slice Ao13 y420.length co13]) ?_ 4 _ rfl; refine bx ?_; exact BK423.out⟩, ⟨by repeat (first | (with_reducible first | exact HB.out | apply below_alloc | apply pw_below_drewN | apply below_drew1 | refine below_set ?_ GE423.out) | exact HB.out)⟩⟩
   rw [if_neg c16] at H
   have c16b0 : decide (x10_1 < a2) = false := decide_eq_false c16
   clear c16
   by_cases c22 : (wrap64 (a1 + a2)) ≤ (l0.length : Int)
   rotate_left
   ·rw [if_neg c22] at H
    have c22b0 : decide ((wrap64 (a1 + a2)) ≤ (l0.length : Int)) = false := decide_eq_false c22
    clear c22
    replace H := bM H
    obtain ⟨⟨t430, t431⟩, A300, H⟩ := H
    replace H : (some t431) = some r := H
    have A30 := Aside0.mk A300
    clear A300
    obtain rfl := Option.some.inj H
    obtain ⟨hcz31_0, hcz31_1, hcz31_2, hcz31_3, hcz31_4, hcz31_5⟩ := zc6 BK423
    obtain ⟨hfz31_0, hfz31_1, hfz31_2, hfz31_3, hfz31_4, hfz31_5⟩ := zf6 BK423
    obtain ⟨Ao32, co32, eo32⟩ := Kd.R_slice HO_424004.out
    subst eo32
    go_wp2_with (first | ((with_reducible refine gate_callee (f := 34) rfl ?_); refine goesL_ (some 51) rfl rfl Try.func34 (by kernel_rfl) rfl #[.agg #[.int .i64 1, .int .i64 1, .int .i64 0, .string (⟨#[]⟩ : ByteArray), .slice Ao32 x424004_1.length co32, .slice Ao13 y420.length co13], .int .i64 a3] rfl aO ?_; (with_reducible refine (inner_Encode.calls k1 1 1 0 (⟨#[]⟩ : ByteArray) _ _ x424004_1 _ _ y420 a3 t430 t431 _ ?side1 ?side2 ?side3 ?side4 A30.out).mono ?_); (case side1 => repeat (first | exact (Kd.R_reads' HO_424004.out).2.2 | (with_reducible refine Kd.C_alloc ?_ _) | (with_reducible refine Kd.C_drewN ?_ _) | (with_reducible refine Kd.C_drew ?_))); (case side2 => exact (Kd.R_reads' HO_424004.out).2.1); (case side3 => repeat (first | exact (Kd.R_reads' HO_424005.out).2.2 | (with_reducible refine Kd.C_alloc ?_ _) | (with_reducible refine Kd.C_drewN ?_ _) | (with_reducible refine Kd.C_drew ?_))); (case side4 => exact (Kd.R_reads' HO_424005.out).2.1); rintro e w33 ⟨rfl, hb⟩; refine ⟨_, rfl, ?_⟩; replace HO_424004 := as_ (Kd.R_below (by (with_reducible repeat (first | apply Kd.R_alloc | apply Kd.R_drewN | apply Kd.R_drew)); exact HO_424004.out) hb); replace HO_424005 := as_ (Kd.R_below (by (with_reducible repeat (first | apply Kd.R_alloc | apply Kd.R_drewN | apply Kd.R_drew)); exact HO_424005.out) hb); replace BK423 := as_ (blk_below (g := gb423) (o := .cells #[.int .i64 1, .int .i64 1, .int .i64 0, .string (⟨#[]⟩ : ByteArray), .slice Ao32 x424004_1.length co32, .slice Ao13 y420.length co13] 50 (0, 0)) (bk BK423) hb); replace HB := as_ (below_step bA hb); (try clear hb); (try clear hb2); (try clear hk); (try clear hi)))
    go_ret
    exact ⟨eW, by repeat (first | (with_reducible first | exact HB.out | apply below_alloc | apply pw_below_drewN | apply below_drew1 | refine below_set ?_ GE423.out) | exact HB.out)⟩
   rw [if_pos c22] at H
   have c22b0 : decide ((wrap64 (a1 + a2)) ≤ (l0.length : Int)) = true := decide_eq_true c22
   clear c22
   obtain ⟨ji23, hji23⟩ : ∃ j_ : Int, (wrap64 ((wrap64 (a1 + a2)) - 1)) = j_ := ⟨_, rfl⟩
   replace H : (if 0 ≤ (ji23) then (if (ji23) < (l0.length : Int) then ((inner_Encode.f k1 1 1 2 (rdOf ByteArray.empty l0 (ji23)) x424004_1 y420 a3).bind fun bt428 => (some bt428.2)) else (none)) else (none)) = some r := by first | (rw [hji23] at H; exact H) | (simp only [hji23] at H ⊢; exact H)
   (try rw [hji23] at c6b0)
   (try rw [hji23] at c6b1)
   (try rw [hji23] at c6)
   (try rw [hji23] at c7b0)
   (try rw [hji23] at c7b1)
   (try rw [hji23] at c7)
   have hji23w : (IntKind.i64.wrap ((wrap64 (a1 + a2)) - 1)) = ji23 := (i64_w _).trans hji23
   by_cases c24 : 0 ≤ (ji23)
   rotate_left
   ·rw [if_neg c24] at H
    exact absurd H (by simp)
   rw [if_pos c24] at H
   have c24b0 : decide (0 ≤ (ji23)) = true := decide_eq_true c24
   clear c24
   by_cases c25 : (ji23) < (l0.length : Int)
   rotate_left
   ·rw [if_neg c25] at H
    exact absurd H (by simp)
   rw [if_pos c25] at H
   have c25b0 : decide ((ji23) < (l0.length : Int)) = true := decide_eq_true c25
   clear c25
   replace H := bM H
   obtain ⟨⟨t428, t429⟩, A260, H⟩ := H
   replace H : (some t429) = some r := H
   have A26 := Aside0.mk A260
   clear A260
   obtain rfl := Option.some.inj H
   have p427 : 0 ≤ ((ji23) : Int) := of_decide_eq_true aM
   have q427 : (ji23) < (l0.length : Int) := of_decide_eq_true aM
   obtain ⟨ad427, e427, hx427_0⟩ := Kd.at_string HR0.out (ji23) p427 q427
   cases e427
   replace hx427_0 := (HB.out.cell (World.block_lt_of_cell? w _ hx427_0)).trans hx427_0
   replace p427 := eq_true p427
   replace q427 := eq_true q427
   obtain ⟨hcz27_0, hcz27_1, hcz27_2, hcz27_3, hcz27_4, hcz27_5⟩ := zc6 BK423
   obtain ⟨hfz27_0, hfz27_1, hfz27_2, hfz27_3, hfz27_4, hfz27_5⟩ := zf6 BK423
   obtain ⟨Ao28, co28, eo28⟩ := Kd.R_slice HO_424004.out
   subst eo28
   go_wp2_with (first | ((with_reducible refine gate_callee (f := 34) rfl ?_); refine goesL_ (some 51) rfl rfl Try.func34 (by kernel_rfl) rfl #[.agg #[.int .i64 1, .int .i64 1, .int .i64 2, .string (rdOf ByteArray.empty l0 (ji23)), .slice Ao28 x424004_1.length co28, .slice Ao13 y420.length co13], .int .i64 a3] rfl (by (try simp only [List.map_toArray, List.map_cons, List.map_nil]); first | done | (simp only [hji23]; rfl) | rfl | (simp only [List.length_drop, List.length_take]; rfl)) ?_; (with_reducible refine (inner_Encode.calls k1 1 1 2 (rdOf ByteArray.empty l0 (ji23)) _ _ x424004_1 _ _ y420 a3 t428 t429 _ ?side1 ?side2 ?side3 ?side4 A26.out).mono ?_); (case side1 => refine (Kd.R_reads' (e := 3) (base := w.heap.size) (ok := fun k_ => True) (n := x424004_1.length) (c := co28) ?_).2.2; exact (by (with_reducible repeat (first | apply Kd.R_alloc | apply Kd.R_drewN | apply Kd.R_drew)); exact (Kd.R_mono (Kd.R_far (p := ⟨gb423, 2, none⟩) (Kd.R_far (p := ⟨gb423, 3, none⟩) (Kd.R_types HO_424004.out BK423.out (by decide)) (fun _ hk => hk.2) (.string (rdOf ByteArray.empty l0 (ji23)))) (fun _ hk => hk.2) (.int .i64 2)) (fun _ h_ => h_.1)))); (case side2 => exact (Kd.R_reads' HO_424004.out).2.1); (case side3 => refine (Kd.R_reads' (e := 9) (base := w.heap.size) (ok := fun k_ => True) (n := y420.length) (c := co13) ?_).2.2; exact (by (with_reducible repeat (first | apply Kd.R_alloc | apply Kd.R_drewN | apply Kd.R_drew)); exact (Kd.R_mono (Kd.R_far (p := ⟨gb423, 2, none⟩) (Kd.R_far (p := ⟨gb423, 3, none⟩) (Kd.R_types HO_424005.out BK423.out (by decide)) (fun _ hk => hk.2) (.string (rdOf ByteArray.empty l0 (ji23)))) (fun _ hk => hk.2) (.int .i64 2)) (fun _ h_ => h_.1)))); (case side4 => exact (Kd.R_reads' HO_424005.out).2.1); rintro e w29 ⟨rfl, hb⟩; refine ⟨_, rfl, ?_⟩; replace HO_424004 := as_ (Kd.R_below (by (with_reducible repeat (first | apply Kd.R_alloc | apply Kd.R_drewN | apply Kd.R_drew)); exact (Kd.R_mono (Kd.R_far (p := ⟨gb423, 2, none⟩) (Kd.R_far (p := ⟨gb423, 3, none⟩) (Kd.R_types HO_424004.out BK423.out (by decide)) (fun _ hk => hk.2) (.string (rdOf ByteArray.empty l0 (ji23)))) (fun _ hk => hk.2) (.int .i64 2)) (fun _ h_ => h_.1))) hb); replace HO_424005 := as_ (Kd.R_below (by (with_reducible repeat (first | apply Kd.R_alloc | apply Kd.R_drewN | apply Kd.R_drew)); exact (Kd.R_mono (Kd.R_far (p := ⟨gb423, 2, none⟩) (Kd.R_far (p := ⟨gb423, 3, none⟩) (Kd.R_types HO_424005.out BK423.out (by decide)) (fun _ hk => hk.2) (.string (rdOf ByteArray.empty l0 (ji23)))) (fun _ hk => hk.2) (.int .i64 2)) (fun _ h_ => h_.1))) hb); replace BK423 := as_ (blk_below (g := gb423) (o := .cells #[.int .i64 1, .int .i64 1, .int .i64 2, .string (rdOf ByteArray.empty l0 (ji23)), .slice Ao28 x424004_1.length co28, .slice Ao13 y420.length co13] 50 (0, 0)) (by refine bx ?_; refine blk_put (cs := #[.int .i64 1, .int .i64 1, .int .i64 0, .string (rdOf ByteArray.empty l0 (ji23)), .slice Ao28 x424004_1.length co28, .slice Ao13 y420.length co13]) ?_ 2 _ rfl; refine bx ?_; refine blk_put (cs := #[.int .i64 1, .int .i64 1, .int .i64 0, .string (⟨#[]⟩ : ByteArray), .slice Ao28 x424004_1.length co28, .slice Ao13 y420.length co13]) ?_ 3 _ rfl; refine bx ?_; exact BK423.out) hb); replace HB := as_ (below_step bA hb); (try clear hb); (try clear hb2); (try clear hk); (try clear hi)))
   go_ret
   exact ⟨by first | rfl | (simp [errW_none, errW_some] <;> rfl) | (simp only [← hji23]; first | rfl | (simp [errW_none, errW_some] <;> rfl)) | (simp [*, errW_none, errW_some] <;> rfl), by repeat (first | (with_reducible first | exact HB.out | apply below_alloc | apply pw_below_drewN | apply below_drew1 | refine below_set ?_ GE423.out) | exact HB.out)⟩
/-! ### withylaw17_LevelRoom: function 8 -/
mutual
def withylaw17_LevelRoom.l0 : Nat → List ByteArray → Int → List Int → Int → Int → Option (Bool)
 | 0, _, _, _, _, _ => none
 | k + 1, x0, x5, x6, x7, x8 => if x8 < (x6.length : Int) then (if 0 ≤ x8 then (if (rd x6 x8) < 1 then (withylaw17_LevelRoom.j1 k x0 x5 x6 x7 x8 true) else (withylaw17_LevelRoom.j1 k x0 x5 x6 x7 x8 (decide ((wrap64 (x7 + (rd x6 x8))) > (wrap64 ((x0.length : Int) + 1)))))) else (none)) else (if x7 = (wrap64 ((x0.length : Int) + 1)) then ((withylaw17_fixed.f k).bind fun t439 => (some t439)) else (none))
def withylaw17_LevelRoom.j1 : Nat → List ByteArray → Int → List Int → Int → Int → Bool → Option (Bool)
 | 0, _, _, _, _, _, _ => none
 | k + 1, x0, x5, x6, x7, x8, x39 => if x39 = true then (none) else (if 0 ≤ x8 then (if x8 < (x6.length : Int) then ((withylaw17_place.f k x0 x7 (rd x6 x8) x5).bind fun t443 => (if t443 = 0 then (if (wrap64 (x7 + (rd x6 x8))) ≤ (x0.length : Int) then ((withylaw17_place.f k x0 x7 (wrap64 ((rd x6 x8) + 1)) x5).bind fun t446 => (if t446 = 8 then (withylaw17_LevelRoom.l0 k x0 x5 x6 (wrap64 (x7 + (rd x6 x8))) (wrap64 (x8 + 1))) else (none))) else (withylaw17_LevelRoom.l0 k x0 x5 x6 (wrap64 (x7 + (rd x6 x8))) (wrap64 (x8 + 1)))) else (none))) else (none)) else (none))
end
def withylaw17_LevelRoom.f (k : Nat) (l0 : List ByteArray) (a1 : Int) : Option (Bool) := (withylaw16_Size.f a1).bind fun t432 => ((withylaw17_Rise.f k l0 t432).bind fun t433 => ((level_Group.f k t433 t432).bind fun t436 => (withylaw17_LevelRoom.l0 k t433 t432 t436 0 0)))
theorem withylaw17_LevelRoom.mono_l : ∀ k, (∀ y0 y1 y2 y3 y4, LeO (withylaw17_LevelRoom.l0 k y0 y1 y2 y3 y4) (withylaw17_LevelRoom.l0 (k + 1) y0 y1 y2 y3 y4)) ∧ (∀ y0 y1 y2 y3 y4 y5, LeO (withylaw17_LevelRoom.j1 k y0 y1 y2 y3 y4 y5) (withylaw17_LevelRoom.j1 (k + 1) y0 y1 y2 y3 y4 y5))
 | 0 => ⟨fun _ _ _ _ _ r h => by simp [withylaw17_LevelRoom.l0] at h, fun _ _ _ _ _ _ r h => by simp [withylaw17_LevelRoom.j1] at h⟩
 | k + 1 => by
  obtain ⟨ih0, ih1⟩ := withylaw17_LevelRoom.mono_l k
  refine ⟨?_, ?_⟩
  ·intro y0 y1 y2 y3 y4
   unfold withylaw17_LevelRoom.l0
   repeat' first
   | (with_reducible exact ih0 _ _ _ _ _)
   | (with_reducible exact ih1 _ _ _ _ _ _)
   | (with_reducible exact level_Group.mono _ _ _)
   | (with_reducible exact withylaw17_Rise.mono _ _ _)
   | (with_reducible exact withylaw17_fixed.mono _)
   | (with_reducible exact withylaw17_place.mono _ _ _ _ _)
   | (with_reducible exact LeO.refl _)
   | (with_reducible exact LeO.none _)
   | (with_reducible refine LeO.ite ?_ ?_)
   | (with_reducible refine LeO.bind ?_ (fun _ => ?_))
   | exact ih0 _ _ _ _ _
   | exact ih1 _ _ _ _ _ _
   | exact level_Group.mono _ _ _
   | exact withylaw17_Rise.mono _ _ _
   | exact withylaw17_fixed.mono _
   | exact withylaw17_place.mono _ _ _ _ _
   | exact LeO.none _
   | refine LeO.ite ?_ ?_
   | refine LeO.bind ?_ (fun _ => ?_)
  ·intro y0 y1 y2 y3 y4 y5
   unfold withylaw17_LevelRoom.j1
   repeat' first
   | (with_reducible exact ih0 _ _ _ _ _)
   | (with_reducible exact ih1 _ _ _ _ _ _)
   | (with_reducible exact level_Group.mono _ _ _)
   | (with_reducible exact withylaw17_Rise.mono _ _ _)
   | (with_reducible exact withylaw17_fixed.mono _)
   | (with_reducible exact withylaw17_place.mono _ _ _ _ _)
   | (with_reducible exact LeO.refl _)
   | (with_reducible exact LeO.none _)
   | (with_reducible refine LeO.ite ?_ ?_)
   | (with_reducible refine LeO.bind ?_ (fun _ => ?_))
   | exact ih0 _ _ _ _ _
   | exact ih1 _ _ _ _ _ _
   | exact level_Group.mono _ _ _
   | exact withylaw17_Rise.mono _ _ _
   | exact withylaw17_fixed.mono _
   | exact withylaw17_place.mono _ _ _ _ _
   | exact LeO.none _
   | refine LeO.ite ?_ ?_
   | refine LeO.bind ?_ (fun _ => ?_)
theorem withylaw17_LevelRoom.mono : ∀ a0 a1 k, LeO (withylaw17_LevelRoom.f k a0 a1) (withylaw17_LevelRoom.f (k + 1) a0 a1) := by
 intro a0 a1 k
 obtain ⟨ih0, ih1⟩ := withylaw17_LevelRoom.mono_l k
 unfold withylaw17_LevelRoom.f
 repeat' first
   | (with_reducible exact ih0 _ _ _ _ _)
   | (with_reducible exact ih1 _ _ _ _ _ _)
   | (with_reducible exact level_Group.mono _ _ _)
   | (with_reducible exact withylaw17_Rise.mono _ _ _)
   | (with_reducible exact withylaw17_fixed.mono _)
   | (with_reducible exact withylaw17_place.mono _ _ _ _ _)
   | (with_reducible exact LeO.refl _)
   | (with_reducible exact LeO.none _)
   | (with_reducible refine LeO.ite ?_ ?_)
   | (with_reducible refine LeO.bind ?_ (fun _ => ?_))
   | exact ih0 _ _ _ _ _
   | exact ih1 _ _ _ _ _ _
   | exact level_Group.mono _ _ _
   | exact withylaw17_Rise.mono _ _ _
   | exact withylaw17_fixed.mono _
   | exact withylaw17_place.mono _ _ _ _ _
   | exact LeO.none _
   | refine LeO.ite ?_ ?_
   | refine LeO.bind ?_ (fun _ => ?_)
set_option maxHeartbeats 8000000 in
set_option maxRecDepth 100000 in
theorem withylaw17_LevelRoom.calls (k : Nat) (A0 : Option Addr) (c0 : Nat) (l0 : List ByteArray) (a1 : Int) (r : Bool) (w : World) (hr0 : Kd.C Kd.string w A0 l0.length l0) (hc0 : l0.length ≤ c0) (h : withylaw17_LevelRoom.f k l0 a1 = some r) :
  Calls Try.prog 8 #[.slice A0 l0.length c0, .int .i64 a1] w fun e w' => e = .returned (.bool r) ∧ Below w.heap.size w w' := by
 have HR0 := Aside0.mk hr0
 have HC0 := Aside0.mk hc0
 clear hr0 hc0
 have HB := as_ (Below.refl w.heap.size w)
 have H : ((withylaw16_Size.f a1).bind fun t432 => ((withylaw17_Rise.f k l0 t432).bind fun t433 => ((level_Group.f k t433 t432).bind fun t436 => (withylaw17_LevelRoom.l0 k t433 t432 t436 0 0)))) = some r := h
 clear h
 replace H := bM H
 obtain ⟨t432, A30, H⟩ := H
 replace H : ((withylaw17_Rise.f k l0 t432).bind fun t433 => ((level_Group.f k t433 t432).bind fun t436 => (withylaw17_LevelRoom.l0 k t433 t432 t436 0 0))) = some r := H
 have A3 := Aside0.mk A30
 clear A30
 replace H := bM H
 obtain ⟨t433, A40, H⟩ := H
 replace H : ((level_Group.f k t433 t432).bind fun t436 => (withylaw17_LevelRoom.l0 k t433 t432 t436 0 0)) = some r := H
 have A4 := Aside0.mk A40
 clear A40
 replace H := bM H
 obtain ⟨t436, A50, H⟩ := H
 replace H : (withylaw17_LevelRoom.l0 k t433 t432 t436 0 0) = some r := H
 have A5 := Aside0.mk A50
 clear A50
 have H' := Aside0.mk H
 clear H
 go_enter Try.func8, Try.ntmps8
 go_wp2_with (first | ((with_reducible refine gate_callee (f := 12) rfl ?_); refine goesL_ (some 10) rfl rfl Try.func12 (by kernel_rfl) rfl #[.int .i64 a1] rfl aO ?_; (with_reducible refine (withylaw16_Size.calls a1 t432 _ A3.out).mono ?_); rintro e w' ⟨rfl, ⟨nd, rfl⟩⟩; refine ⟨_, rfl, ?_⟩) | ((with_reducible refine gate_callee (f := 13) rfl ?_); refine goesL_ (some 13) rfl rfl Try.func13 (by kernel_rfl) rfl #[.slice A0 l0.length c0, .int .i64 t432] rfl aO ?_; (with_reducible refine (withylaw17_Rise.calls k _ _ l0 t432 t433 _ ?side1 ?side2 A4.out).mono ?_); (case side1 => repeat (first | exact HR0.out | (with_reducible refine Kd.C_alloc ?_ _) | (with_reducible refine Kd.C_drewN ?_ _) | (with_reducible refine Kd.C_drew ?_))); (case side2 => exact HC0.out); rintro e w6 ⟨v434, rfl, ho0, hb⟩; refine ⟨_, rfl, ?_⟩; have HO435 := as_ (Kd.R_lower ho0 (below_size bA)); replace HB := as_ (below_step bA hb); (try clear hb); (try clear hb2); (try clear hk); (try clear hi); (try clear ho0); obtain ⟨Ao7, co7, eo7⟩ := Kd.R_slice HO435.out; subst eo7) | ((with_reducible refine gate_callee (f := 16) rfl ?_); refine goesL_ (some 16) rfl rfl Try.func16 (by kernel_rfl) rfl #[.slice Ao7 t433.length co7, .int .i64 t432] rfl aO ?_; (with_reducible refine (level_Group.calls k _ _ t433 t432 t436 _ ?side1 ?side2 A5.out).mono ?_); (case side1 => repeat (first | exact (Kd.R_reads' HO435.out).2.2 | (with_reducible refine Kd.C_alloc ?_ _) | (with_reducible refine Kd.C_drewN ?_ _) | (with_reducible refine Kd.C_drew ?_))); (case side2 => exact (Kd.R_reads' HO435.out).2.1); rintro e w8 ⟨v437, rfl, ho0, hb⟩; refine ⟨_, rfl, ?_⟩; have HO438 := as_ (Kd.R_lower ho0 (below_size bA)); replace HO435 := as_ (Kd.R_below (by (with_reducible repeat (first | apply Kd.R_alloc | apply Kd.R_drewN | apply Kd.R_drew)); exact HO435.out) hb); replace HB := as_ (below_step bA hb); (try clear hb); (try clear hb2); (try clear hk); (try clear hi); (try clear ho0)))
 go_loopg [7, 8] k (fun kq v7 v8 w' => ∃ (x7_1 : Int) (x8_1 : Int), v7 = .int .i64 x7_1 ∧ v8 = .int .i64 x8_1 ∧ Aside0 (withylaw17_LevelRoom.l0 kq t433 t432 t436 x7_1 x8_1 = some r) ∧ Aside0 (kq ≤ k) ∧ Aside0 (Kd.R Kd.string 9 w' w.heap.size (fun _ => True) (.slice Ao7 t433.length co7) t433) ∧ Aside0 (Kd.R (Kd.int .i64) 3 w' w.heap.size (fun _ => True) v437 t436) ∧ Aside0 (Below w.heap.size w w'))
 case atStart => exact ⟨(0), (0), (by first | rfl | (simp; done) | (simp [*]; done)), (by first | rfl | (simp; done) | (simp [*]; done)), H', ⟨Nat.le_refl _⟩, ⟨by (with_reducible repeat (first | apply Kd.R_alloc | apply Kd.R_drewN | apply Kd.R_drew)); exact HO435.out⟩, ⟨by (with_reducible repeat (first | apply Kd.R_alloc | apply Kd.R_drewN | apply Kd.R_drew)); exact HO438.out⟩, ⟨by repeat (first | (with_reducible first | exact HB.out | apply below_alloc | apply pw_below_drewN | apply below_drew1) | exact HB.out)⟩⟩
 case round =>
  clear H'
  try clear c1
  try clear p2
  try clear c8
  obtain ⟨x7_1, x8_1, rfl, rfl, HA, HK1, HO_0, HO_6, HB⟩ := hrel
  cases gk with
  | zero => exact absurd HA.out (by simp [withylaw17_LevelRoom.l0])
  | succ k1 =>
   have H := HA.out
   clear HA
   simp only [withylaw17_LevelRoom.l0] at H
   by_cases c9 : x8_1 < (t436.length : Int)
   rotate_left
   ·rw [if_neg c9] at H
    have c9b0 : decide (x8_1 < (t436.length : Int)) = false := decide_eq_false c9
    clear c9
    by_cases c25 : x7_1 = (wrap64 ((t433.length : Int) + 1))
    rotate_left
    ·rw [if_neg c25] at H
     exact absurd H (by simp)
  
    rw [if_pos c25] at H
    have c25b0 : (x7_1 == (wrap64 ((t433.length : Int) + 1))) = true := beq_iff_eq.mpr c25
    have c25b1 : (x7_1 != (wrap64 ((t433.length : Int) + 1))) = false := bne_eq_false_iff_eq.mpr c25
    clear c25
    replace H := bM H
    obtain ⟨t439, A260, H⟩ := H
    replace H : (some t439) = some r := H
    have A26 := Aside0.mk A260
    clear A260
    obtain rfl := Option.some.inj H
    obtain ⟨Ao27, co27, eo27⟩ := Kd.R_slice HO_6.out
    subst eo27
    go_wp2_with (first | (go_at_call 26; (with_reducible refine (withylaw17_fixed.calls k1  t439 _ A26.out).mono ?_); rintro e w28 ⟨rfl, hb⟩; replace HO_0 := as_ (Kd.R_below (by (with_reducible repeat (first | apply Kd.R_alloc | apply Kd.R_drewN | apply Kd.R_drew)); exact HO_0.out) hb); replace HO_6 := as_ (Kd.R_below (by (with_reducible repeat (first | apply Kd.R_alloc | apply Kd.R_drewN | apply Kd.R_drew)); exact HO_6.out) hb); replace HB := as_ (below_step bA hb); (try clear hb); (try clear hb2); (try clear hk); (try clear hi)))
    go_ret
    exact ⟨eW, by repeat (first | (with_reducible first | exact HB.out | apply below_alloc | apply pw_below_drewN | apply below_drew1) | exact HB.out)⟩
   rw [if_pos c9] at H
   have c9b0 : decide (x8_1 < (t436.length : Int)) = true := decide_eq_true c9
   clear c9
   have HC10 := Aside0.mk H
   clear H
   obtain ⟨Ao11, co11, eo11⟩ := Kd.R_slice HO_6.out
   subst eo11
   go_upto_region 7 with (fail)
   go_cut [39] (fun v39 wc => ∃ (kq : Nat) (x39_9 : Bool), v39 = .bool x39_9 ∧ Aside0 (withylaw17_LevelRoom.j1 kq t433 t432 t436 x7_1 x8_1 x39_9 = some r) ∧ Aside0 (kq ≤ k1) ∧ Aside0 (Kd.R Kd.string 9 wc w.heap.size (fun _ => True) (.slice Ao7 t433.length co7) t433) ∧ Aside0 (Kd.R (Kd.int .i64) 3 wc w.heap.size (fun _ => True) (.slice Ao11 t436.length co11) t436) ∧ Aside0 (Below w.heap.size w wc))
   case first =>
    have H := HC10.out
    clear HC10
    by_cases c12 : 0 ≤ x8_1
    rotate_left
    ·rw [if_neg c12] at H
     exact absurd H (by simp)
    rw [if_pos c12] at H
    have c12b0 : decide (0 ≤ x8_1) = true := decide_eq_true c12
    clear c12
    (first | rw [c12b0] | (simp only [i64_w, i32_w]; rw [c12b0]) | rw [c12b1] | skip)
    by_cases c13 : (rd t436 x8_1) < 1
    ·rw [if_pos c13] at H
     have c13b0 : decide ((rd t436 x8_1) < 1) = true := decide_eq_true c13
     clear c13
     have H' := Aside0.mk H
     clear H
     have p440 : 0 ≤ (x8_1 : Int) := of_decide_eq_true aM
     have q440 : x8_1 < (t436.length : Int) := of_decide_eq_true aM
     obtain ⟨ad440, e440, hx440_0⟩ := Kd.at_int (Kd.R_reads' HO_6.out).2.2 x8_1 p440 q440
     cases e440
     replace p440 := eq_true p440
     replace q440 := eq_true q440
     go_wp2
     go_meet
     case rel => exact ⟨_, (true), (by first | rfl | (simp; done) | (simp [*]; done)), H', ⟨by have := HK1.out; first | omega | exact Nat.le_refl _⟩, ⟨by (with_reducible repeat (first | apply Kd.R_alloc | apply Kd.R_drewN | apply Kd.R_drew)); exact HO_0.out⟩, ⟨by (with_reducible repeat (first | apply Kd.R_alloc | apply Kd.R_drewN | apply Kd.R_drew)); exact HO_6.out⟩, ⟨by repeat (first | (with_reducible first | exact HB.out | apply below_alloc | apply pw_below_drewN | apply below_drew1) | exact HB.out)⟩⟩
    rw [if_neg c13] at H
    have c13b0 : decide ((rd t436 x8_1) < 1) = false := decide_eq_false c13
    clear c13
    have H' := Aside0.mk H
    clear H
    have p440 : 0 ≤ (x8_1 : Int) := of_decide_eq_true aM
    have q440 : x8_1 < (t436.length : Int) := of_decide_eq_true aM
    obtain ⟨ad440, e440, hx440_0⟩ := Kd.at_int (Kd.R_reads' HO_6.out).2.2 x8_1 p440 q440
    cases e440
    replace p440 := eq_true p440
    replace q440 := eq_true q440
    have p441 : 0 ≤ (x8_1 : Int) := of_decide_eq_true aM
    have q441 : x8_1 < (t436.length : Int) := of_decide_eq_true aM
    obtain ⟨ad441, e441, hx441_0⟩ := Kd.at_int (Kd.R_reads' HO_6.out).2.2 x8_1 p441 q441
    obtain rfl : ad440 = ad441 := (by injection e441)
    replace p441 := eq_true p441
    replace q441 := eq_true q441
    go_wp2
    go_meet
    case rel => exact ⟨_, (decide ((wrap64 (x7_1 + (rd t436 x8_1))) > (wrap64 ((t433.length : Int) + 1)))), (by first | rfl | (simp; done) | (simp [*]; done)), H', ⟨by have := HK1.out; first | omega | exact Nat.le_refl _⟩, ⟨by (with_reducible repeat (first | apply Kd.R_alloc | apply Kd.R_drewN | apply Kd.R_drew)); exact HO_0.out⟩, ⟨by (with_reducible repeat (first | apply Kd.R_alloc | apply Kd.R_drewN | apply Kd.R_drew)); exact HO_6.out⟩, ⟨by repeat (first | (with_reducible first | exact HB.out | apply below_alloc | apply pw_below_drewN | apply below_drew1) | exact HB.out)⟩⟩
   case rest =>
    clear HC10
    try clear c1
    try clear p2
    try clear p4
    try clear q4
    try clear hx4
    try clear p6
    try clear c8
    try clear c9
    try clear c9b0
    try clear c12
    try clear c12b0
    try clear c12b1
    try clear c13
    try clear c13b0
    try clear hx440_0
    try clear hx441_0
    try clear p2
    try clear p440
    try clear p441
    try clear q440
    try clear q441
    obtain ⟨kq, x39_9, rfl, HA, HJ9, HO_0, HO_6, HB⟩ := hcut
    cases kq with
    | zero => exact absurd HA.out (by simp [withylaw17_LevelRoom.j1])
    | succ kj9 =>
     have H := HA.out
     clear HA
     simp only [withylaw17_LevelRoom.j1] at H
     by_cases c14 : x39_9 = true
     ·subst c14
      have H1 : (none) = some r := by rw [if_pos rfl] at H; exact H
      clear H
      have H := H1
      clear H1
      exact absurd H (by simp)
     replace c14 := Bool.eq_false_iff.mpr c14
     subst c14
     have H1 : (if 0 ≤ x8_1 then (if x8_1 < (t436.length : Int) then ((withylaw17_place.f kj9 t433 x7_1 (rd t436 x8_1) t432).bind fun t443 => (if t443 = 0 then (if (wrap64 (x7_1 + (rd t436 x8_1))) ≤ (t433.length : Int) then ((withylaw17_place.f kj9 t433 x7_1 (wrap64 ((rd t436 x8_1) + 1)) t432).bind fun t446 => (if t446 = 8 then (withylaw17_LevelRoom.l0 kj9 t433 t432 t436 (wrap64 (x7_1 + (rd t436 x8_1))) (wrap64 (x8_1 + 1))) else (none))) else (withylaw17_LevelRoom.l0 kj9 t433 t432 t436 (wrap64 (x7_1 + (rd t436 x8_1))) (wrap64 (x8_1 + 1)))) else (none))) else (none)) else (none)) = some r := by rw [if_neg (show ¬ (false = true) by decide)] at H; exact H
     clear H
     have H := H1
     clear H1
     by_cases c15 : 0 ≤ x8_1
     rotate_left
     ·rw [if_neg c15] at H
      exact absurd H (by simp)
     rw [if_pos c15] at H
     have c15b0 : decide (0 ≤ x8_1) = true := decide_eq_true c15
     clear c15
     by_cases c16 : x8_1 < (t436.length : Int)
     rotate_left
     ·rw [if_neg c16] at H
      exact absurd H (by simp)
     rw [if_pos c16] at H
     have c16b0 : decide (x8_1 < (t436.length : Int)) = true := decide_eq_true c16
     clear c16
     replace H := bM H
     obtain ⟨t443, A170, H⟩ := H
     replace H : (if t443 = 0 then (if (wrap64 (x7_1 + (rd t436 x8_1))) ≤ (t433.length : Int) then ((withylaw17_place.f kj9 t433 x7_1 (wrap64 ((rd t436 x8_1) + 1)) t432).bind fun t446 => (if t446 = 8 then (withylaw17_LevelRoom.l0 kj9 t433 t432 t436 (wrap64 (x7_1 + (rd t436 x8_1))) (wrap64 (x8_1 + 1))) else (none))) else (withylaw17_LevelRoom.l0 kj9 t433 t432 t436 (wrap64 (x7_1 + (rd t436 x8_1))) (wrap64 (x8_1 + 1)))) else (none)) = some r := H
     have A17 := Aside0.mk A170
     clear A170
     by_cases c18 : t443 = 0
     rotate_left
     ·rw [if_neg c18] at H
      exact absurd H (by simp)
     rw [if_pos c18] at H
     have c18b0 : (t443 == 0) = true := beq_iff_eq.mpr c18
     have c18b1 : (t443 != 0) = false := bne_eq_false_iff_eq.mpr c18
     clear c18
     by_cases c19 : (wrap64 (x7_1 + (rd t436 x8_1))) ≤ (t433.length : Int)
     rotate_left
     ·rw [if_neg c19] at H
      have c19b0 : decide ((wrap64 (x7_1 + (rd t436 x8_1))) ≤ (t433.length : Int)) = false := decide_eq_false c19
      clear c19
      have H' := Aside0.mk H
      clear H
      have p442 : 0 ≤ (x8_1 : Int) := of_decide_eq_true aM
      have q442 : x8_1 < (t436.length : Int) := of_decide_eq_true aM
      obtain ⟨ad442, e442, hx442_0⟩ := Kd.at_int (Kd.R_reads' HO_6.out).2.2 x8_1 p442 q442
      cases e442
      replace p442 := eq_true p442
      replace q442 := eq_true q442
      go_wp2_with (first | ((with_reducible refine gate_callee (f := 28) rfl ?_); refine goesL_ (some 47) rfl rfl Try.func28 (by kernel_rfl) rfl #[.slice Ao7 t433.length co7, .int .i64 x7_1, .int .i64 (rd t436 x8_1), .int .i64 t432] rfl aO ?_; (with_reducible refine (withylaw17_place.calls kj9 _ _ t433 x7_1 (rd t436 x8_1) t432 t443 _ ?side1 ?side2 A17.out).mono ?_); (case side1 => repeat (first | exact (Kd.R_reads' HO_0.out).2.2 | (with_reducible refine Kd.C_alloc ?_ _) | (with_reducible refine Kd.C_drewN ?_ _) | (with_reducible refine Kd.C_drew ?_))); (case side2 => exact (Kd.R_reads' HO_0.out).2.1); rintro e w24 ⟨rfl, hb⟩; refine ⟨_, rfl, ?_⟩; replace HO_0 := as_ (Kd.R_below (by (with_reducible repeat (first | apply Kd.R_alloc | apply Kd.R_drewN | apply Kd.R_drew)); exact HO_0.out) hb); replace HO_6 := as_ (Kd.R_below (by (with_reducible repeat (first | apply Kd.R_alloc | apply Kd.R_drewN | apply Kd.R_drew)); exact HO_6.out) hb); replace HB := as_ (below_step bA hb); (try clear hb); (try clear hb2); (try clear hk); (try clear hi); have p444 : 0 ≤ (x8_1 : Int) := of_decide_eq_true aM; have q444 : x8_1 < (t436.length : Int) := of_decide_eq_true aM; obtain ⟨ad444, e444, hx444_0⟩ := Kd.at_int (Kd.R_reads' HO_6.out).2.2 x8_1 p444 q444; obtain rfl : ad442 = ad444 := (by injection e444); replace p444 := eq_true p444; replace q444 := eq_true q444; have p448 : 0 ≤ (x8_1 : Int) := of_decide_eq_true aM; have q448 : x8_1 < (t436.length : Int) := of_decide_eq_true aM; obtain ⟨ad448, e448, hx448_0⟩ := Kd.at_int (Kd.R_reads' HO_6.out).2.2 x8_1 p448 q448; obtain rfl : ad442 = ad448 := (by injection e448); replace p448 := eq_true p448; replace q448 := eq_true q448))
      go_roundg kj9
      case measure => have := HK1.out; have := HJ9.out; omega
      case rel => exact ⟨(wrap64 (x7_1 + (rd t436 x8_1))), (wrap64 (x8_1 + 1)), (by first | rfl | (simp; done) | (simp [*]; done)), (by first | rfl | (simp; done) | (simp [*]; done)), H', ⟨by have := HK1.out; have := HJ9.out; omega⟩, ⟨by (with_reducible repeat (first | apply Kd.R_alloc | apply Kd.R_drewN | apply Kd.R_drew)); exact HO_0.out⟩, ⟨by (with_reducible repeat (first | apply Kd.R_alloc | apply Kd.R_drewN | apply Kd.R_drew)); exact HO_6.out⟩, ⟨by repeat (first | (with_reducible first | exact HB.out | apply below_alloc | apply pw_below_drewN | apply below_drew1) | exact HB.out)⟩⟩
     rw [if_pos c19] at H
     have c19b0 : decide ((wrap64 (x7_1 + (rd t436 x8_1))) ≤ (t433.length : Int)) = true := decide_eq_true c19
     clear c19
     replace H := bM H
     obtain ⟨t446, A200, H⟩ := H
     replace H : (if t446 = 8 then (withylaw17_LevelRoom.l0 kj9 t433 t432 t436 (wrap64 (x7_1 + (rd t436 x8_1))) (wrap64 (x8_1 + 1))) else (none)) = some r := H
     have A20 := Aside0.mk A200
     clear A200
     by_cases c21 : t446 = 8
     rotate_left
     ·rw [if_neg c21] at H
      exact absurd H (by simp)
     rw [if_pos c21] at H
     have c21b0 : (t446 == 8) = true := beq_iff_eq.mpr c21
     have c21b1 : (t446 != 8) = false := bne_eq_false_iff_eq.mpr c21
     clear c21
     have H' := Aside0.mk H
     clear H
     have p442 : 0 ≤ (x8_1 : Int) := of_decide_eq_true aM
     have q442 : x8_1 < (t436.length : Int) := of_decide_eq_true aM
     obtain ⟨ad442, e442, hx442_0⟩ := Kd.at_int (Kd.R_reads' HO_6.out).2.2 x8_1 p442 q442
     cases e442
     replace p442 := eq_true p442
     replace q442 := eq_true q442
     go_wp2_with (first | ((with_reducible refine gate_callee (f := 28) rfl ?_); refine goesL_ (some 47) rfl rfl Try.func28 (by kernel_rfl) rfl #[.slice Ao7 t433.length co7, .int .i64 x7_1, .int .i64 (rd t436 x8_1), .int .i64 t432] rfl aO ?_; (with_reducible refine (withylaw17_place.calls kj9 _ _ t433 x7_1 (rd t436 x8_1) t432 t443 _ ?side1 ?side2 A17.out).mono ?_); (case side1 => repeat (first | exact (Kd.R_reads' HO_0.out).2.2 | (with_reducible refine Kd.C_alloc ?_ _) | (with_reducible refine Kd.C_drewN ?_ _) | (with_reducible refine Kd.C_drew ?_))); (case side2 => exact (Kd.R_reads' HO_0.out).2.1); rintro e w22 ⟨rfl, hb⟩; refine ⟨_, rfl, ?_⟩; replace HO_0 := as_ (Kd.R_below (by (with_reducible repeat (first | apply Kd.R_alloc | apply Kd.R_drewN | apply Kd.R_drew)); exact HO_0.out) hb); replace HO_6 := as_ (Kd.R_below (by (with_reducible repeat (first | apply Kd.R_alloc | apply Kd.R_drewN | apply Kd.R_drew)); exact HO_6.out) hb); replace HB := as_ (below_step bA hb); (try clear hb); (try clear hb2); (try clear hk); (try clear hi); have p444 : 0 ≤ (x8_1 : Int) := of_decide_eq_true aM; have q444 : x8_1 < (t436.length : Int) := of_decide_eq_true aM; obtain ⟨ad444, e444, hx444_0⟩ := Kd.at_int (Kd.R_reads' HO_6.out).2.2 x8_1 p444 q444; obtain rfl : ad442 = ad444 := (by injection e444); replace p444 := eq_true p444; replace q444 := eq_true q444; have p445 : 0 ≤ (x8_1 : Int) := of_decide_eq_true aM; have q445 : x8_1 < (t436.length : Int) := of_decide_eq_true aM; obtain ⟨ad445, e445, hx445_0⟩ := Kd.at_int (Kd.R_reads' HO_6.out).2.2 x8_1 p445 q445; obtain rfl : ad442 = ad445 := (by injection e445); replace p445 := eq_true p445; replace q445 := eq_true q445) | (go_at_call 28; (first | (with_reducible refine (withylaw17_place.calls kj9 _ _ t433 x7_1 (wrap64 ((rd t436 x8_1) + 1)) t432 t446 _ ?side1 ?side2 A20.out).mono ?_) | (with_reducible refine (withylaw17_place.calls kj9 _ _ t433 x7_1 ((rd t436 x8_1) + 1) t432 t446 _ ?side1 ?side2 (by have e_ := A20.out; rwa [(by unfold wrap64; omega : wrap64 ((rd t436 x8_1) + 1) = ((rd t436 x8_1) + 1))] at e_)).mono ?_)); (case side1 => repeat (first | exact (Kd.R_reads' HO_0.out).2.2 | (with_reducible refine Kd.C_alloc ?_ _) | (with_reducible refine Kd.C_drewN ?_ _) | (with_reducible refine Kd.C_drew ?_))); (case side2 => exact (Kd.R_reads' HO_0.out).2.1); rintro e w23 ⟨rfl, hb⟩; replace HO_0 := as_ (Kd.R_below (by (with_reducible repeat (first | apply Kd.R_alloc | apply Kd.R_drewN | apply Kd.R_drew)); exact HO_0.out) hb); replace HO_6 := as_ (Kd.R_below (by (with_reducible repeat (first | apply Kd.R_alloc | apply Kd.R_drewN | apply Kd.R_drew)); exact HO_6.out) hb); replace HB := as_ (below_step bA hb); (try clear hb); (try clear hb2); (try clear hk); (try clear hi); have p447 : 0 ≤ (x8_1 : Int) := of_decide_eq_true aM; have q447 : x8_1 < (t436.length : Int) := of_decide_eq_true aM; obtain ⟨ad447, e447, hx447_0⟩ := Kd.at_int (Kd.R_reads' HO_6.out).2.2 x8_1 p447 q447; obtain rfl : ad442 = ad447 := (by injection e447); replace p447 := eq_true p447; replace q447 := eq_true q447))
     go_roundg kj9
     case measure => have := HK1.out; have := HJ9.out; omega
     case rel => exact ⟨(wrap64 (x7_1 + (rd t436 x8_1))), (wrap64 (x8_1 + 1)), (by first | rfl | (simp; done) | (simp [*]; done)), (by first | rfl | (simp; done) | (simp [*]; done)), H', ⟨by have := HK1.out; have := HJ9.out; omega⟩, ⟨by (with_reducible repeat (first | apply Kd.R_alloc | apply Kd.R_drewN | apply Kd.R_drew)); exact HO_0.out⟩, ⟨by (with_reducible repeat (first | apply Kd.R_alloc | apply Kd.R_drewN | apply Kd.R_drew)); exact HO_6.out⟩, ⟨by repeat (first | (with_reducible first | exact HB.out | apply below_alloc | apply pw_below_drewN | apply below_drew1) | exact HB.out)⟩⟩
end Go.Proofs.Ytfialmegikegbaa.P
