/- What is proved here: for functions of the Go text, a Lean function each, and that the call comes to just what it answers. Conditions: as each contract names them. Written by wip/tools/myprint.py, a driver of the print of the kit. -/
import Derived.Test.YthaicofleloplaaDoorP0
import Derived.Test.YthaicofleloplaaDoorP5
import Derived.Test.YthaicofleloplaaDoorWAbbr
namespace Go.Proofs.YthaicofleloplaaDoor.P
open Go.RowKit Go.Proofs.YthaicofleloplaaDoorW.PrintWords Go.Proofs.YthaicofleloplaaDoorW.PrintLast Go.Proofs.YthaicofleloplaaDoorW.PrintMore Go.Proofs.YthaicofleloplaaDoorW.Abbr
-- PACKED
attribute [local go_sem] max2_int min2_int max_two min_two max_three min_three max_four min_four Go.Proofs.YthaicofleloplaaDoorLaws.str_leq Go.Proofs.YthaicofleloplaaDoorLaws.str_gtr Go.Proofs.YthaicofleloplaaDoorLaws.str_geq Go.Proofs.YthaicofleloplaaDoorLaws.max2_str Go.Proofs.YthaicofleloplaaDoorLaws.min2_str   -- for this text's walks alone
set_option linter.unusedVariables false
set_option linter.unusedSimpArgs false

/-! ### withyref03_Put: function 24 -/
mutual
def withyref03_Put.l0 : Nat → Int → ByteArray → Int → Option (ByteArray × Int)
 | 0, _, _, _ => none
 | k + 1, x4, x5, x6 => if x6 < 8 then ((some (([(Int.tmod x4 256) % 256] : List Int) : List Int)).bind fun y173 => (if (strOfNums y173).size + x5.size ≤ 9223372036854775807 then (withyref03_Put.l0 k (IntKind.u64.wrap (Int.tdiv x4 256)) ((strOfNums y173) ++ x5) (wrap64 (x6 + 1))) else (none))) else (if 1 + x5.size ≤ 9223372036854775807 then (some ((⟨#[48]⟩ : ByteArray) ++ x5, 0)) else (none))
def withyref03_Put.l1 : Nat → List Int → Int → Int → Int → Int → ByteArray → Option (ByteArray × Int)
 | 0, _, _, _, _, _, _ => none
 | k + 1, x7, x8, x169000, x169001, x169002, x169003 => if x8 < (x169003.size : Int) then (if 0 ≤ x8 then (if x7.length < 140737488355328 then ((some (x7 ++ [bt x169003 x8] : List Int)).bind fun y180 => (if (bt x169003 x8) = 0 then (if y180.length < 140737488355328 then (withyref03_Put.l1 k (y180 ++ [255]) (wrap64 (x8 + 1)) x169000 x169001 x169002 x169003) else (none)) else (withyref03_Put.l1 k y180 (wrap64 (x8 + 1)) x169000 x169001 x169002 x169003))) else (none)) else (none)) else (if x7.length < 140737488355328 then ((some (x7 ++ [0] : List Int)).bind fun y186 => (if y186.length < 140737488355328 then (some (strOfNums (y186 ++ [1]), 0)) else (none))) else (none))
end
def withyref03_Put.f (k : Nat) (a0_0 : Int) (a0_1 : Int) (a0_2 : Int) (a0_3 : ByteArray) : Option (ByteArray × Int) := (withyref03_Right.f a0_0 a0_1 a0_2 a0_3).bind fun t169 => (if t169 = true then (if a0_0 = 0 then (some ((⟨#[16]⟩ : ByteArray), 0)) else (if a0_0 = 1 then (some (strOfNums (([(IntKind.u64.wrap (32 + a0_2)) % 256] : List Int)), 0)) else (if a0_0 = 2 then (withyref03_Put.l0 k (IntKind.u64.wrap ((IntKind.u64.wrap (a0_1)) + 9223372036854775808)) (⟨#[]⟩ : ByteArray) 0) else (if a0_0 = 3 then ((withyref01_Put.f k a0_2).bind fun t176 => (if 1 + t176.size ≤ 9223372036854775807 then (some ((⟨#[64]⟩ : ByteArray) ++ t176, 0)) else (none))) else (withyref03_Put.l1 k (([80] : List Int)) 0 a0_0 a0_1 a0_2 a0_3))))) else (some ((⟨#[]⟩ : ByteArray), 3)))
theorem withyref03_Put.mono_l : ∀ k, (∀ y0 y1 y2, LeO (withyref03_Put.l0 k y0 y1 y2) (withyref03_Put.l0 (k + 1) y0 y1 y2)) ∧ (∀ y0 y1 y2 y3 y4 y5, LeO (withyref03_Put.l1 k y0 y1 y2 y3 y4 y5) (withyref03_Put.l1 (k + 1) y0 y1 y2 y3 y4 y5))
 | 0 => ⟨fun _ _ _ r h => by simp [withyref03_Put.l0] at h, fun _ _ _ _ _ _ r h => by simp [withyref03_Put.l1] at h⟩
 | k + 1 => by
  obtain ⟨ih0, ih1⟩ := withyref03_Put.mono_l k
  refine ⟨?_, ?_⟩
  ·intro y0 y1 y2
   unfold withyref03_Put.l0
   repeat' first
   | (with_reducible exact ih0 _ _ _)
   | (with_reducible exact ih1 _ _ _ _ _ _)
   | (with_reducible exact withyref01_Put.mono _ _)
   | (with_reducible exact LeO.refl _)
   | (with_reducible exact LeO.none _)
   | (with_reducible refine LeO.ite ?_ ?_)
   | (with_reducible refine LeO.bind ?_ (fun _ => ?_))
   | exact ih0 _ _ _
   | exact ih1 _ _ _ _ _ _
   | exact withyref01_Put.mono _ _
   | exact LeO.none _
   | refine LeO.ite ?_ ?_
   | refine LeO.bind ?_ (fun _ => ?_)
  ·intro y0 y1 y2 y3 y4 y5
   unfold withyref03_Put.l1
   repeat' first
   | (with_reducible exact ih0 _ _ _)
   | (with_reducible exact ih1 _ _ _ _ _ _)
   | (with_reducible exact withyref01_Put.mono _ _)
   | (with_reducible exact LeO.refl _)
   | (with_reducible exact LeO.none _)
   | (with_reducible refine LeO.ite ?_ ?_)
   | (with_reducible refine LeO.bind ?_ (fun _ => ?_))
   | exact ih0 _ _ _
   | exact ih1 _ _ _ _ _ _
   | exact withyref01_Put.mono _ _
   | exact LeO.none _
   | refine LeO.ite ?_ ?_
   | refine LeO.bind ?_ (fun _ => ?_)
theorem withyref03_Put.mono : ∀ a0 a1 a2 a3 k, LeO (withyref03_Put.f k a0 a1 a2 a3) (withyref03_Put.f (k + 1) a0 a1 a2 a3) := by
 intro a0 a1 a2 a3 k
 obtain ⟨ih0, ih1⟩ := withyref03_Put.mono_l k
 unfold withyref03_Put.f
 repeat' first
   | (with_reducible exact ih0 _ _ _)
   | (with_reducible exact ih1 _ _ _ _ _ _)
   | (with_reducible exact withyref01_Put.mono _ _)
   | (with_reducible exact LeO.refl _)
   | (with_reducible exact LeO.none _)
   | (with_reducible refine LeO.ite ?_ ?_)
   | (with_reducible refine LeO.bind ?_ (fun _ => ?_))
   | exact ih0 _ _ _
   | exact ih1 _ _ _ _ _ _
   | exact withyref01_Put.mono _ _
   | exact LeO.none _
   | refine LeO.ite ?_ ?_
   | refine LeO.bind ?_ (fun _ => ?_)
set_option maxHeartbeats 8000000 in
set_option maxRecDepth 100000 in
theorem withyref03_Put.calls (k : Nat) (a0_0 : Int) (a0_1 : Int) (a0_2 : Int) (a0_3 : ByteArray) (r1 : ByteArray) (r2 : Int) (w : World) (h : withyref03_Put.f k a0_0 a0_1 a0_2 a0_3 = some (r1, r2)) :
  Calls Tryd.prog 24 #[.agg #[.int .i64 a0_0, .int .i64 a0_1, .int .u64 a0_2, .string a0_3]] w fun e w' => e = .returned (.tuple #[.string r1, .int .i64 r2]) ∧ Below w.heap.size w w' := by
 have hu56 := Tryd.underlying56
 have HB := as_ (Below.refl w.heap.size w)
 have H : ((withyref03_Right.f a0_0 a0_1 a0_2 a0_3).bind fun t169 => (if t169 = true then (if a0_0 = 0 then (some ((⟨#[16]⟩ : ByteArray), 0)) else (if a0_0 = 1 then (some (strOfNums (([(IntKind.u64.wrap (32 + a0_2)) % 256] : List Int)), 0)) else (if a0_0 = 2 then (withyref03_Put.l0 k (IntKind.u64.wrap ((IntKind.u64.wrap (a0_1)) + 9223372036854775808)) (⟨#[]⟩ : ByteArray) 0) else (if a0_0 = 3 then ((withyref01_Put.f k a0_2).bind fun t176 => (if 1 + t176.size ≤ 9223372036854775807 then (some ((⟨#[64]⟩ : ByteArray) ++ t176, 0)) else (none))) else (withyref03_Put.l1 k (([80] : List Int)) 0 a0_0 a0_1 a0_2 a0_3))))) else (some ((⟨#[]⟩ : ByteArray), 3)))) = some (r1, r2) := h
 clear h
 replace H := bM H
 obtain ⟨t169, A20, H⟩ := H
 replace H : (if t169 = true then (if a0_0 = 0 then (some ((⟨#[16]⟩ : ByteArray), 0)) else (if a0_0 = 1 then (some (strOfNums (([(IntKind.u64.wrap (32 + a0_2)) % 256] : List Int)), 0)) else (if a0_0 = 2 then (withyref03_Put.l0 k (IntKind.u64.wrap ((IntKind.u64.wrap (a0_1)) + 9223372036854775808)) (⟨#[]⟩ : ByteArray) 0) else (if a0_0 = 3 then ((withyref01_Put.f k a0_2).bind fun t176 => (if 1 + t176.size ≤ 9223372036854775807 then (some ((⟨#[64]⟩ : ByteArray) ++ t176, 0)) else (none))) else (withyref03_Put.l1 k (([80] : List Int)) 0 a0_0 a0_1 a0_2 a0_3))))) else (some ((⟨#[]⟩ : ByteArray), 3))) = some (r1, r2) := H
 have A2 := Aside0.mk A20
 clear A20
 by_cases c3 : t169 = true
 rotate_left
 ·replace c3 := Bool.eq_false_iff.mpr c3
  subst c3
  have H1 : (some ((⟨#[]⟩ : ByteArray), 3)) = some (r1, r2) := by rw [if_neg (show ¬ (false = true) by decide)] at H; exact H
  clear H
  have H := H1
  clear H1
  simp only [Option.some.injEq, Prod.mk.injEq] at H
  obtain ⟨rfl, rfl⟩ := H
  go_enter Tryd.func24, Tryd.ntmps24
  go_wp2_with (first | ((with_reducible refine gate_dst (N := 1) rfl ?_); refine box_event (by rfl) (N := 1) (by rfl) (cs := #[.int .i64 a0_0, .int .i64 a0_1, .int .u64 a0_2, .string a0_3]) (t := 56) gS ?_; intro gb168 hg w65 hbox hb; have BK168 := as_ (hbox); have GW168 := gw hg bA; have GE168 := gw hg bA; replace HB := as_ (below_step bA hb); clear hb hbox hg; obtain ⟨hcz66_0, hcz66_1, hcz66_2, hcz66_3⟩ := zc4 BK168; obtain ⟨hfz66_0, hfz66_1, hfz66_2, hfz66_3⟩ := zf4 BK168) | ((with_reducible refine gate_callee (f := 28) rfl ?_); refine goesL_ (some 10) rfl rfl Tryd.func28 (by kernel_rfl) rfl #[.agg #[.int .i64 a0_0, .int .i64 a0_1, .int .u64 a0_2, .string a0_3]] rfl aO ?_; (with_reducible refine (withyref03_Right.calls a0_0 a0_1 a0_2 a0_3 false _ A2.out).mono ?_); rintro e w67 ⟨rfl, hb⟩; refine ⟨_, rfl, ?_⟩; replace BK168 := bb BK168 hb; replace HB := as_ (below_step bA hb); (try clear hb); (try clear hb2); (try clear hk); (try clear hi)))
  go_ret2
  exact ⟨eW, by repeat (first | (with_reducible first | exact HB.out | apply below_alloc | apply pw_below_drewN | apply below_drew1 | refine below_set ?_ GE168.out) | exact HB.out)⟩
 
 subst c3
 have H1 : (if a0_0 = 0 then (some ((⟨#[16]⟩ : ByteArray), 0)) else (if a0_0 = 1 then (some (strOfNums (([(IntKind.u64.wrap (32 + a0_2)) % 256] : List Int)), 0)) else (if a0_0 = 2 then (withyref03_Put.l0 k (IntKind.u64.wrap ((IntKind.u64.wrap (a0_1)) + 9223372036854775808)) (⟨#[]⟩ : ByteArray) 0) else (if a0_0 = 3 then ((withyref01_Put.f k a0_2).bind fun t176 => (if 1 + t176.size ≤ 9223372036854775807 then (some ((⟨#[64]⟩ : ByteArray) ++ t176, 0)) else (none))) else (withyref03_Put.l1 k (([80] : List Int)) 0 a0_0 a0_1 a0_2 a0_3))))) = some (r1, r2) := by rw [if_pos rfl] at H; exact H
 clear H
 have H := H1
 clear H1
 by_cases c4 : a0_0 = 0
 ·rw [if_pos c4] at H
  have c4b0 : (a0_0 == 0) = true := beq_iff_eq.mpr c4
  have c4b1 : (a0_0 != 0) = false := bne_eq_false_iff_eq.mpr c4
  clear c4
  simp only [Option.some.injEq, Prod.mk.injEq] at H
  obtain ⟨rfl, rfl⟩ := H
  go_enter Tryd.func24, Tryd.ntmps24
  go_wp2_with (first | ((with_reducible refine gate_dst (N := 1) rfl ?_); refine box_event (by rfl) (N := 1) (by rfl) (cs := #[.int .i64 a0_0, .int .i64 a0_1, .int .u64 a0_2, .string a0_3]) (t := 56) gS ?_; intro gb168 hg w5 hbox hb; have BK168 := as_ (hbox); have GW168 := gw hg bA; have GE168 := gw hg bA; replace HB := as_ (below_step bA hb); clear hb hbox hg; obtain ⟨hcz6_0, hcz6_1, hcz6_2, hcz6_3⟩ := zc4 BK168; obtain ⟨hfz6_0, hfz6_1, hfz6_2, hfz6_3⟩ := zf4 BK168) | ((with_reducible refine gate_callee (f := 28) rfl ?_); refine goesL_ (some 10) rfl rfl Tryd.func28 (by kernel_rfl) rfl #[.agg #[.int .i64 a0_0, .int .i64 a0_1, .int .u64 a0_2, .string a0_3]] rfl aO ?_; (with_reducible refine (withyref03_Right.calls a0_0 a0_1 a0_2 a0_3 true _ A2.out).mono ?_); rintro e w7 ⟨rfl, hb⟩; refine ⟨_, rfl, ?_⟩; replace BK168 := bb BK168 hb; replace HB := as_ (below_step bA hb); (try clear hb); (try clear hb2); (try clear hk); (try clear hi); obtain ⟨hcz8_0, hcz8_1, hcz8_2, hcz8_3⟩ := zc4 BK168; obtain ⟨hfz8_0, hfz8_1, hfz8_2, hfz8_3⟩ := zf4 BK168))
  go_ret2
  exact ⟨eW, by repeat (first | (with_reducible first | exact HB.out | apply below_alloc | apply pw_below_drewN | apply below_drew1 | refine below_set ?_ GE168.out) | exact HB.out)⟩
 rw [if_neg c4] at H
 have c4b0 : (a0_0 == 0) = false := beq_eq_false_iff_ne.mpr c4
 have c4b1 : (a0_0 != 0) = true := bne_iff_ne.mpr c4
 by_cases c9 : a0_0 = 1
 ·rw [if_pos c9] at H
  have c9b0 : (a0_0 == 1) = true := beq_iff_eq.mpr c9
  have c9b1 : (a0_0 != 1) = false := bne_eq_false_iff_eq.mpr c9
  clear c9
  obtain ⟨y170, hy170⟩ : ∃ y_ : List Int, y_ = (([(IntKind.u64.wrap (32 + a0_2)) % 256] : List Int)) := ⟨_, rfl⟩
  replace H : (some (strOfNums y170, 0)) = some (r1, r2) := by first | (rw [hy170]; with_reducible exact H) | (have H2_ := (Option.bind_some _ _).symm.trans H; rw [hy170]; with_reducible exact H2_) | (have H2_ := (Option.bind_some _ _).symm.trans H; with_reducible exact H2_) | with_reducible exact H | (rw [hy170]; exact H) | exact H
  have Ny170 := Aside0.mk hy170
  clear hy170
  simp only [Option.some.injEq, Prod.mk.injEq] at H
  obtain ⟨rfl, rfl⟩ := H
  go_enter Tryd.func24, Tryd.ntmps24
  go_wp2_with (first | ((with_reducible refine gate_dst (N := 1) rfl ?_); refine box_event (by rfl) (N := 1) (by rfl) (cs := #[.int .i64 a0_0, .int .i64 a0_1, .int .u64 a0_2, .string a0_3]) (t := 56) gS ?_; intro gb168 hg w10 hbox hb; have BK168 := as_ (hbox); have GW168 := gw hg bA; have GE168 := gw hg bA; replace HB := as_ (below_step bA hb); clear hb hbox hg; obtain ⟨hcz11_0, hcz11_1, hcz11_2, hcz11_3⟩ := zc4 BK168; obtain ⟨hfz11_0, hfz11_1, hfz11_2, hfz11_3⟩ := zf4 BK168) | ((with_reducible refine gate_callee (f := 28) rfl ?_); refine goesL_ (some 10) rfl rfl Tryd.func28 (by kernel_rfl) rfl #[.agg #[.int .i64 a0_0, .int .i64 a0_1, .int .u64 a0_2, .string a0_3]] rfl aO ?_; (with_reducible refine (withyref03_Right.calls a0_0 a0_1 a0_2 a0_3 true _ A2.out).mono ?_); rintro e w12 ⟨rfl, hb⟩; refine ⟨_, rfl, ?_⟩; replace BK168 := bb BK168 hb; replace HB := as_ (below_step bA hb); (try clear hb); (try clear hb2); (try clear hk); (try clear hi); obtain ⟨hcz13_0, hcz13_1, hcz13_2, hcz13_3⟩ := zc4 BK168; obtain ⟨hfz13_0, hfz13_1, hfz13_2, hfz13_3⟩ := zf4 BK168) | ((with_reducible refine gate_dst (N := 22) rfl ?_); refine Kd.R_lit (Kd.int .u8) _ 5 ?hg (N := 22) ?hd (xs := ([(IntKind.u64.wrap (32 + a0_2)) % 256] : List Int)) (inner := [.int .u8 ((IntKind.u64.wrap (32 + a0_2)) % 256)]) (ok := fun _ => True) (okp := fun _ => True) ?hr ?hp (fun _ hk => hk) trivial (Below.refl _ _) (Nat.le_refl _) (by simp) ?_; (case hd => rfl); (case hg => rfl); (case hr => first | (go_simp; done) | (go_simp; rfl)); (case hp => exact (Reps.one (show Kd.M (Kd.int .u8) _ _ _ ((IntKind.u64.wrap (32 + a0_2)) % 256) [.int .u8 ((IntKind.u64.wrap (32 + a0_2)) % 256)] from rfl) (Reps.none _ _))); intro v171 w14 ho15 hb hg_ hnew_; clear hg_ hnew_; (first | rw [← Ny170.out] at ho15 | (simp only [Int.reduceToNat] at ho15; rw [← Ny170.out] at ho15)); have HO172 := as_ (Kd.R_lower ho15 (below_size bA)); replace BK168 := bb BK168 hb; replace HB := as_ (below_step bA hb); clear hb ho15; have hcv16 := own_string (P := Tryd.prog) Tryd.underlying45 Tryd.underlying5 Tryd.underlying9 (Kd.own_of_R HO172.out)))
  go_ret2
  exact ⟨eW, by repeat (first | (with_reducible first | exact HB.out | apply below_alloc | apply pw_below_drewN | apply below_drew1 | refine below_set ?_ GE168.out) | exact HB.out)⟩
 rw [if_neg c9] at H
 have c9b0 : (a0_0 == 1) = false := beq_eq_false_iff_ne.mpr c9
 have c9b1 : (a0_0 != 1) = true := bne_iff_ne.mpr c9
 by_cases c17 : a0_0 = 2
 ·rw [if_pos c17] at H
  have c17b0 : (a0_0 == 2) = true := beq_iff_eq.mpr c17
  have c17b1 : (a0_0 != 2) = false := bne_eq_false_iff_eq.mpr c17
  clear c17
  have H' := Aside0.mk H
  clear H
  go_enter Tryd.func24, Tryd.ntmps24
  go_wp2_with (first | ((with_reducible refine gate_dst (N := 1) rfl ?_); refine box_event (by rfl) (N := 1) (by rfl) (cs := #[.int .i64 a0_0, .int .i64 a0_1, .int .u64 a0_2, .string a0_3]) (t := 56) gS ?_; intro gb168 hg w18 hbox hb; have BK168 := as_ (hbox); have GW168 := gw hg bA; have GE168 := gw hg bA; replace HB := as_ (below_step bA hb); clear hb hbox hg; obtain ⟨hcz19_0, hcz19_1, hcz19_2, hcz19_3⟩ := zc4 BK168; obtain ⟨hfz19_0, hfz19_1, hfz19_2, hfz19_3⟩ := zf4 BK168) | ((with_reducible refine gate_callee (f := 28) rfl ?_); refine goesL_ (some 10) rfl rfl Tryd.func28 (by kernel_rfl) rfl #[.agg #[.int .i64 a0_0, .int .i64 a0_1, .int .u64 a0_2, .string a0_3]] rfl aO ?_; (with_reducible refine (withyref03_Right.calls a0_0 a0_1 a0_2 a0_3 true _ A2.out).mono ?_); rintro e w20 ⟨rfl, hb⟩; refine ⟨_, rfl, ?_⟩; replace BK168 := bb BK168 hb; replace HB := as_ (below_step bA hb); (try clear hb); (try clear hb2); (try clear hk); (try clear hi); obtain ⟨hcz21_0, hcz21_1, hcz21_2, hcz21_3⟩ := zc4 BK168; obtain ⟨hfz21_0, hfz21_1, hfz21_2, hfz21_3⟩ := zf4 BK168))
  go_loopg [4, 5, 6] k (fun kq v4 v5 v6 w' => ∃ (x4_1 : Int) (x5_1 : ByteArray) (x6_1 : Int), v4 = .int .u64 x4_1 ∧ v5 = .string x5_1 ∧ v6 = .int .i64 x6_1 ∧ Aside0 (withyref03_Put.l0 kq x4_1 x5_1 x6_1 = some (r1, r2)) ∧ Aside0 (kq ≤ k) ∧ Aside0 (w'.heap[gb168]? = some (.cells #[.int .i64 a0_0, .int .i64 a0_1, .int .u64 a0_2, .string a0_3] 56 (0, 0))) ∧ Aside0 (Below w.heap.size w w'))
  case atStart => exact ⟨(IntKind.u64.wrap ((IntKind.u64.wrap (a0_1)) + 9223372036854775808)), ((⟨#[]⟩ : ByteArray)), (0), (by first | rfl | (simp; done) | (simp [*]; done)), (by first | rfl | (simp; done) | (simp [*]; done)), (by first | rfl | (simp; done) | (simp [*]; done)), H', ⟨Nat.le_refl _⟩, ⟨by refine bx ?_; exact BK168.out⟩, ⟨by repeat (first | (with_reducible first | exact HB.out | apply below_alloc | apply pw_below_drewN | apply below_drew1 | refine below_set ?_ GE168.out) | exact HB.out)⟩⟩
  case round =>
   clear H'
   try clear c1
   try clear hcv1
   try clear c2
   try clear p2
   try clear c3
   try clear c4
   try clear c4b0
   try clear c4b1
   try clear c9
   try clear c9b0
   try clear c9b1
   try clear hcv16
   try clear c17
   try clear c17b0
   try clear c17b1
   try clear hcz11_0
   try clear hcz11_1
   try clear hcz11_2
   try clear hcz11_3
   try clear hcz13_0
   try clear hcz13_1
   try clear hcz13_2
   try clear hcz13_3
   try clear hcz19_0
   try clear hcz19_1
   try clear hcz19_2
   try clear hcz19_3
   try clear hcz21_0
   try clear hcz21_1
   try clear hcz21_2
   try clear hcz21_3
   try clear hcz6_0
   try clear hcz6_1
   try clear hcz6_2
   try clear hcz6_3
   try clear hcz8_0
   try clear hcz8_1
   try clear hcz8_2
   try clear hcz8_3
   try clear hfz11_0
   try clear hfz11_1
   try clear hfz11_2
   try clear hfz11_3
   try clear hfz13_0
   try clear hfz13_1
   try clear hfz13_2
   try clear hfz13_3
   try clear hfz19_0
   try clear hfz19_1
   try clear hfz19_2
   try clear hfz19_3
   try clear hfz21_0
   try clear hfz21_1
   try clear hfz21_2
   try clear hfz21_3
   try clear hfz6_0
   try clear hfz6_1
   try clear hfz6_2
   try clear hfz6_3
   try clear hfz8_0
   try clear hfz8_1
   try clear hfz8_2
   try clear hfz8_3
   obtain ⟨x4_1, x5_1, x6_1, rfl, rfl, rfl, HA, HK1, BK168, HB⟩ := hrel
   cases gk with
   | zero => exact absurd HA.out (by simp [withyref03_Put.l0])
   | succ k1 =>
    have H := HA.out
    clear HA
    simp only [withyref03_Put.l0] at H
    by_cases c22 : x6_1 < 8
    rotate_left
    ·rw [if_neg c22] at H
     have c22b0 : decide (x6_1 < 8) = false := decide_eq_false c22
     clear c22
     by_cases c28 : 1 + x5_1.size ≤ 9223372036854775807
     rotate_left
     ·rw [if_neg c28] at H
      exact absurd H (by simp)
     rw [if_pos c28] at H
     have c28b0 := eq_true c28
     have c28b1 : decide (1 + x5_1.size ≤ 9223372036854775807) = true := decide_eq_true c28
     try have c28b2 : (9223372036854775807 < 1 + x5_1.size) = False := eq_false (Nat.not_lt.2 c28)
     obtain ⟨js29, hjs29⟩ : ∃ j_ : ByteArray, ((⟨#[48]⟩ : ByteArray) ++ x5_1) = j_ := ⟨_, rfl⟩
     replace H : (some (js29, 0)) = some (r1, r2) := by first | (rw [hjs29] at H; exact H) | (simp only [hjs29] at H ⊢; exact H)
     simp only [Option.some.injEq, Prod.mk.injEq] at H
     obtain ⟨rfl, rfl⟩ := H
     go_wp2
     go_ret2
     exact ⟨by first | rfl | (simp [errW_none, errW_some] <;> rfl) | (simp only [← hjs29]; first | rfl | (simp [errW_none, errW_some] <;> rfl)) | (simp [*, errW_none, errW_some] <;> rfl), by repeat (first | (with_reducible first | exact HB.out | apply below_alloc | apply pw_below_drewN | apply below_drew1 | refine below_set ?_ GE168.out) | exact HB.out)⟩
    rw [if_pos c22] at H
    have c22b0 : decide (x6_1 < 8) = true := decide_eq_true c22
    clear c22
    obtain ⟨y173, hy173⟩ : ∃ y_ : List Int, y_ = (([(Int.tmod x4_1 256) % 256] : List Int)) := ⟨_, rfl⟩
    replace H : (if (strOfNums y173).size + x5_1.size ≤ 9223372036854775807 then (withyref03_Put.l0 k1 (IntKind.u64.wrap (Int.tdiv x4_1 256)) ((strOfNums y173) ++ x5_1) (wrap64 (x6_1 + 1))) else (none)) = some (r1, r2) := by first | (rw [hy173]; with_reducible exact H) | (have H2_ := (Option.bind_some _ _).symm.trans H; rw [hy173]; with_reducible exact H2_) | (have H2_ := (Option.bind_some _ _).symm.trans H; with_reducible exact H2_) | with_reducible exact H | (rw [hy173]; exact H) | exact H
    have Ny173 := Aside0.mk hy173
    clear hy173
    by_cases c23 : (strOfNums y173).size + x5_1.size ≤ 9223372036854775807
    rotate_left
    ·rw [if_neg c23] at H
     exact absurd H (by simp)
    rw [if_pos c23] at H
    have c23b0 := eq_true c23
    have c23b1 : decide ((strOfNums y173).size + x5_1.size ≤ 9223372036854775807) = true := decide_eq_true c23
    try have c23b2 : (9223372036854775807 < (strOfNums y173).size + x5_1.size) = False := eq_false (Nat.not_lt.2 c23)
    obtain ⟨js24, hjs24⟩ : ∃ j_ : ByteArray, ((strOfNums y173) ++ x5_1) = j_ := ⟨_, rfl⟩
    replace H : (withyref03_Put.l0 k1 (IntKind.u64.wrap (Int.tdiv x4_1 256)) js24 (wrap64 (x6_1 + 1))) = some (r1, r2) := by first | (rw [hjs24] at H; exact H) | (simp only [hjs24] at H ⊢; exact H)
    have H' := Aside0.mk H
    clear H
    go_wp2_with (first | ((with_reducible refine gate_dst (N := 37) rfl ?_); refine Kd.R_lit (Kd.int .u8) _ 5 ?hg (N := 37) ?hd (xs := ([(Int.tmod x4_1 256) % 256] : List Int)) (inner := [.int .u8 ((Int.tmod x4_1 256) % 256)]) (ok := fun _ => True) (okp := fun _ => True) ?hr ?hp (fun _ hk => hk) trivial (Below.refl _ _) (Nat.le_refl _) (by simp) ?_; (case hd => rfl); (case hg => rfl); (case hr => first | (go_simp; done) | (go_simp; rfl)); (case hp => exact (Reps.one (show Kd.M (Kd.int .u8) _ _ _ ((Int.tmod x4_1 256) % 256) [.int .u8 ((Int.tmod x4_1 256) % 256)] from rfl) (Reps.none _ _))); intro v174 w25 ho26 hb hg_ hnew_; clear hg_ hnew_; (first | rw [← Ny173.out] at ho26 | (simp only [Int.reduceToNat] at ho26; rw [← Ny173.out] at ho26)); have HO175 := as_ (Kd.R_lower ho26 (below_size bA)); replace BK168 := bb BK168 hb; replace HB := as_ (below_step bA hb); clear hb ho26; have hcv27 := own_string (P := Tryd.prog) Tryd.underlying45 Tryd.underlying5 Tryd.underlying9 (Kd.own_of_R HO175.out)))
    go_roundg k1
    case measure => have := HK1.out; omega
    case rel => exact ⟨(IntKind.u64.wrap (Int.tdiv x4_1 256)), (js24), (wrap64 (x6_1 + 1)), (by first | rfl | (simp; done) | (simp [*]; done)), (by first | rfl | (simp; done) | (simp only [← hjs24] <;> (first | rfl | simp)) | (simp [*]; done)), (by first | rfl | (simp; done) | (simp [*]; done)), H', ⟨by have := HK1.out; omega⟩, ⟨by refine bx ?_; exact BK168.out⟩, ⟨by repeat (first | (with_reducible first | exact HB.out | apply below_alloc | apply pw_below_drewN | apply below_drew1 | refine below_set ?_ GE168.out) | exact HB.out)⟩⟩
 rw [if_neg c17] at H
 have c17b0 : (a0_0 == 2) = false := beq_eq_false_iff_ne.mpr c17
 have c17b1 : (a0_0 != 2) = true := bne_iff_ne.mpr c17
 by_cases c30 : a0_0 = 3
 ·rw [if_pos c30] at H
  have c30b0 : (a0_0 == 3) = true := beq_iff_eq.mpr c30
  have c30b1 : (a0_0 != 3) = false := bne_eq_false_iff_eq.mpr c30
  clear c30
  replace H := bM H
  obtain ⟨t176, A310, H⟩ := H
  replace H : (if 1 + t176.size ≤ 9223372036854775807 then (some ((⟨#[64]⟩ : ByteArray) ++ t176, 0)) else (none)) = some (r1, r2) := H
  have A31 := Aside0.mk A310
  clear A310
  by_cases c32 : 1 + t176.size ≤ 9223372036854775807
  rotate_left
  ·rw [if_neg c32] at H
   exact absurd H (by simp)
  rw [if_pos c32] at H
  have c32b0 := eq_true c32
  have c32b1 : decide (1 + t176.size ≤ 9223372036854775807) = true := decide_eq_true c32
  try have c32b2 : (9223372036854775807 < 1 + t176.size) = False := eq_false (Nat.not_lt.2 c32)
  obtain ⟨js33, hjs33⟩ : ∃ j_ : ByteArray, ((⟨#[64]⟩ : ByteArray) ++ t176) = j_ := ⟨_, rfl⟩
  replace H : (some (js33, 0)) = some (r1, r2) := by first | (rw [hjs33] at H; exact H) | (simp only [hjs33] at H ⊢; exact H)
  (try rw [hjs33] at A2)
  (try rw [hjs33] at A31)
  simp only [Option.some.injEq, Prod.mk.injEq] at H
  obtain ⟨rfl, rfl⟩ := H
  go_enter Tryd.func24, Tryd.ntmps24
  go_wp2_with (first | ((with_reducible refine gate_dst (N := 1) rfl ?_); refine box_event (by rfl) (N := 1) (by rfl) (cs := #[.int .i64 a0_0, .int .i64 a0_1, .int .u64 a0_2, .string a0_3]) (t := 56) gS ?_; intro gb168 hg w34 hbox hb; have BK168 := as_ (hbox); have GW168 := gw hg bA; have GE168 := gw hg bA; replace HB := as_ (below_step bA hb); clear hb hbox hg; obtain ⟨hcz35_0, hcz35_1, hcz35_2, hcz35_3⟩ := zc4 BK168; obtain ⟨hfz35_0, hfz35_1, hfz35_2, hfz35_3⟩ := zf4 BK168) | ((with_reducible refine gate_callee (f := 28) rfl ?_); refine goesL_ (some 10) rfl rfl Tryd.func28 (by kernel_rfl) rfl #[.agg #[.int .i64 a0_0, .int .i64 a0_1, .int .u64 a0_2, .string a0_3]] rfl aO ?_; (with_reducible refine (withyref03_Right.calls a0_0 a0_1 a0_2 a0_3 true _ A2.out).mono ?_); rintro e w36 ⟨rfl, hb⟩; refine ⟨_, rfl, ?_⟩; replace BK168 := bb BK168 hb; replace HB := as_ (below_step bA hb); (try clear hb); (try clear hb2); (try clear hk); (try clear hi); obtain ⟨hcz37_0, hcz37_1, hcz37_2, hcz37_3⟩ := zc4 BK168; obtain ⟨hfz37_0, hfz37_1, hfz37_2, hfz37_3⟩ := zf4 BK168) | ((with_reducible refine gate_callee (f := 44) rfl ?_); refine goesL_ (some 49) rfl rfl Tryd.func44 (by kernel_rfl) rfl #[.int .u64 a0_2] rfl aO ?_; (with_reducible refine (withyref01_Put.calls k a0_2 t176 _ A31.out).mono ?_); rintro e w38 ⟨rfl, hb⟩; refine ⟨_, rfl, ?_⟩; replace BK168 := bb BK168 hb; replace HB := as_ (below_step bA hb); (try clear hb); (try clear hb2); (try clear hk); (try clear hi)))
  go_ret2
  exact ⟨by first | rfl | (simp [errW_none, errW_some] <;> rfl) | (simp only [← hjs33]; first | rfl | (simp [errW_none, errW_some] <;> rfl)) | (simp [*, errW_none, errW_some] <;> rfl), by repeat (first | (with_reducible first | exact HB.out | apply below_alloc | apply pw_below_drewN | apply below_drew1 | refine below_set ?_ GE168.out) | exact HB.out)⟩
 rw [if_neg c30] at H
 have c30b0 : (a0_0 == 3) = false := beq_eq_false_iff_ne.mpr c30
 have c30b1 : (a0_0 != 3) = true := bne_iff_ne.mpr c30
 obtain ⟨y177, hy177⟩ : ∃ y_ : List Int, y_ = (([80] : List Int)) := ⟨_, rfl⟩
 replace H : (withyref03_Put.l1 k y177 0 a0_0 a0_1 a0_2 a0_3) = some (r1, r2) := by first | (rw [hy177]; with_reducible exact H) | (have H2_ := (Option.bind_some _ _).symm.trans H; rw [hy177]; with_reducible exact H2_) | (have H2_ := (Option.bind_some _ _).symm.trans H; with_reducible exact H2_) | with_reducible exact H | (rw [hy177]; exact H) | exact H
 have Ny177 := Aside0.mk hy177
 clear hy177
 have H' := Aside0.mk H
 clear H
 go_enter Tryd.func24, Tryd.ntmps24
 go_wp2_with (first | ((with_reducible refine gate_dst (N := 1) rfl ?_); refine box_event (by rfl) (N := 1) (by rfl) (cs := #[.int .i64 a0_0, .int .i64 a0_1, .int .u64 a0_2, .string a0_3]) (t := 56) gS ?_; intro gb168 hg w39 hbox hb; have BK168 := as_ (hbox); have GW168 := gw hg bA; have GE168 := gw hg bA; replace HB := as_ (below_step bA hb); clear hb hbox hg; obtain ⟨hcz40_0, hcz40_1, hcz40_2, hcz40_3⟩ := zc4 BK168; obtain ⟨hfz40_0, hfz40_1, hfz40_2, hfz40_3⟩ := zf4 BK168) | ((with_reducible refine gate_callee (f := 28) rfl ?_); refine goesL_ (some 10) rfl rfl Tryd.func28 (by kernel_rfl) rfl #[.agg #[.int .i64 a0_0, .int .i64 a0_1, .int .u64 a0_2, .string a0_3]] rfl aO ?_; (with_reducible refine (withyref03_Right.calls a0_0 a0_1 a0_2 a0_3 true _ A2.out).mono ?_); rintro e w41 ⟨rfl, hb⟩; refine ⟨_, rfl, ?_⟩; replace BK168 := bb BK168 hb; replace HB := as_ (below_step bA hb); (try clear hb); (try clear hb2); (try clear hk); (try clear hi); obtain ⟨hcz42_0, hcz42_1, hcz42_2, hcz42_3⟩ := zc4 BK168; obtain ⟨hfz42_0, hfz42_1, hfz42_2, hfz42_3⟩ := zf4 BK168) | ((with_reducible refine gate_dst (N := 51) rfl ?_); refine Kd.R_lit (Kd.int .u8) _ 5 ?hg (N := 51) ?hd (xs := ([80] : List Int)) (inner := [.int .u8 80]) (ok := fun _ => True) (okp := fun _ => True) ?hr ?hp (fun _ hk => hk) trivial (Below.refl _ _) (Nat.le_refl _) (by simp) ?_; (case hd => rfl); (case hg => rfl); (case hr => first | (go_simp; done) | (go_simp; rfl)); (case hp => exact (Reps.one (show Kd.M (Kd.int .u8) _ _ _ 80 [.int .u8 80] from rfl) (Reps.none _ _))); intro v178 w43 ho44 hb hg_ hnew_; clear hg_ hnew_; (first | rw [← Ny177.out] at ho44 | (simp only [Int.reduceToNat] at ho44; rw [← Ny177.out] at ho44)); have HO179 := as_ (Kd.R_lower ho44 (below_size bA)); replace BK168 := bb BK168 hb; replace HB := as_ (below_step bA hb); clear hb ho44))
 go_loopg [7, 8] k (fun kq v7 v8 w' => ∃ (x7_1 : List Int) (x8_1 : Int), v8 = .int .i64 x8_1 ∧ Aside0 (withyref03_Put.l1 kq x7_1 x8_1 a0_0 a0_1 a0_2 a0_3 = some (r1, r2)) ∧ Aside0 (kq ≤ k) ∧ Aside0 (Kd.R (Kd.int .u8) 5 w' w.heap.size (fun _ => True) v7 x7_1) ∧ Aside0 (w'.heap[gb168]? = some (.cells #[.int .i64 a0_0, .int .i64 a0_1, .int .u64 a0_2, .string a0_3] 56 (0, 0))) ∧ Aside0 (Below w.heap.size w w'))
 case atStart => exact ⟨(y177), (0), (by first | rfl | (simp; done) | (simp [*]; done)), H', ⟨Nat.le_refl _⟩, ⟨by (with_reducible repeat (first | apply Kd.R_alloc | apply Kd.R_drewN | apply Kd.R_drew)); exact HO179.out⟩, ⟨by refine bx ?_; exact BK168.out⟩, ⟨by repeat (first | (with_reducible first | exact HB.out | apply below_alloc | apply pw_below_drewN | apply below_drew1 | refine below_set ?_ GE168.out) | exact HB.out)⟩⟩
 case round =>
  clear H'
  try clear c1
  try clear hcv1
  try clear c2
  try clear p2
  try clear hcv2
  try clear c3
  try clear c4
  try clear c4b0
  try clear c4b1
  try clear p6
  try clear c9
  try clear c9b0
  try clear c9b1
  try clear hcv16
  try clear c17
  try clear c17b0
  try clear c17b1
  try clear c22
  try clear c22b0
  try clear c23
  try clear c23b0
  try clear c23b1
  try clear c23b2
  try clear c24
  try clear hcv27
  try clear c28
  try clear c28b0
  try clear c28b1
  try clear c28b2
  try clear c30
  try clear c30b0
  try clear c30b1
  try clear c32
  try clear c32b0
  try clear c32b1
  try clear c32b2
  try clear c44
  try clear hcz11_0
  try clear hcz11_1
  try clear hcz11_2
  try clear hcz11_3
  try clear hcz13_0
  try clear hcz13_1
  try clear hcz13_2
  try clear hcz13_3
  try clear hcz19_0
  try clear hcz19_1
  try clear hcz19_2
  try clear hcz19_3
  try clear hcz21_0
  try clear hcz21_1
  try clear hcz21_2
  try clear hcz21_3
  try clear hcz35_0
  try clear hcz35_1
  try clear hcz35_2
  try clear hcz35_3
  try clear hcz37_0
  try clear hcz37_1
  try clear hcz37_2
  try clear hcz37_3
  try clear hcz40_0
  try clear hcz40_1
  try clear hcz40_2
  try clear hcz40_3
  try clear hcz42_0
  try clear hcz42_1
  try clear hcz42_2
  try clear hcz42_3
  try clear hcz6_0
  try clear hcz6_1
  try clear hcz6_2
  try clear hcz6_3
  try clear hcz8_0
  try clear hcz8_1
  try clear hcz8_2
  try clear hcz8_3
  try clear hfz11_0
  try clear hfz11_1
  try clear hfz11_2
  try clear hfz11_3
  try clear hfz13_0
  try clear hfz13_1
  try clear hfz13_2
  try clear hfz13_3
  try clear hfz19_0
  try clear hfz19_1
  try clear hfz19_2
  try clear hfz19_3
  try clear hfz21_0
  try clear hfz21_1
  try clear hfz21_2
  try clear hfz21_3
  try clear hfz35_0
  try clear hfz35_1
  try clear hfz35_2
  try clear hfz35_3
  try clear hfz37_0
  try clear hfz37_1
  try clear hfz37_2
  try clear hfz37_3
  try clear hfz40_0
  try clear hfz40_1
  try clear hfz40_2
  try clear hfz40_3
  try clear hfz42_0
  try clear hfz42_1
  try clear hfz42_2
  try clear hfz42_3
  try clear hfz6_0
  try clear hfz6_1
  try clear hfz6_2
  try clear hfz6_3
  try clear hfz8_0
  try clear hfz8_1
  try clear hfz8_2
  try clear hfz8_3
  try clear p2
  obtain ⟨x7_1, x8_1, rfl, HA, HK1, HO_7, BK168, HB⟩ := hrel
  cases gk with
  | zero => exact absurd HA.out (by simp [withyref03_Put.l1])
  | succ k1 =>
   have H := HA.out
   clear HA
   simp only [withyref03_Put.l1] at H
   by_cases c45 : x8_1 < (a0_3.size : Int)
   rotate_left
   ·rw [if_neg c45] at H
    have c45b0 : decide (x8_1 < (a0_3.size : Int)) = false := decide_eq_false c45
    clear c45
    by_cases c59 : x7_1.length < 140737488355328
    rotate_left
    ·rw [if_neg c59] at H
     exact absurd H (by simp)
    rw [if_pos c59] at H
    have LMc59 := Aside0.mk c59
    clear c59
    obtain ⟨y186, hy186⟩ : ∃ y_ : List Int, y_ = (x7_1 ++ [0]) := ⟨_, rfl⟩
    replace H : (if y186.length < 140737488355328 then (some (strOfNums (y186 ++ [1]), 0)) else (none)) = some (r1, r2) := by first | (rw [hy186]; with_reducible exact H) | (have H2_ := (Option.bind_some _ _).symm.trans H; rw [hy186]; with_reducible exact H2_) | (have H2_ := (Option.bind_some _ _).symm.trans H; with_reducible exact H2_) | with_reducible exact H | (rw [hy186]; exact H) | exact H
    have Ny186 := Aside0.mk hy186
    clear hy186
    by_cases c60 : y186.length < 140737488355328
    rotate_left
    ·rw [if_neg c60] at H
     exact absurd H (by simp)
    rw [if_pos c60] at H
    have LMc60 := Aside0.mk c60
    clear c60
    obtain ⟨y189, hy189⟩ : ∃ y_ : List Int, y_ = (y186 ++ [1]) := ⟨_, rfl⟩
    replace H : (some (strOfNums y189, 0)) = some (r1, r2) := by first | (rw [hy189]; with_reducible exact H) | (have H2_ := (Option.bind_some _ _).symm.trans H; rw [hy189]; with_reducible exact H2_) | (have H2_ := (Option.bind_some _ _).symm.trans H; with_reducible exact H2_) | with_reducible exact H | (rw [hy189]; exact H) | exact H
    have Ny189 := Aside0.mk hy189
    clear hy189
    simp only [Option.some.injEq, Prod.mk.injEq] at H
    obtain ⟨rfl, rfl⟩ := H
    obtain ⟨hcz61_0, hcz61_1, hcz61_2, hcz61_3⟩ := zc4 BK168
    obtain ⟨hfz61_0, hfz61_1, hfz61_2, hfz61_3⟩ := zf4 BK168
    go_wp2_with (first | ((with_reducible refine gate_builtin (b := .append) (xs := #[.tmp 74, .tmp 75]) rfl ?_); at_builtin; refine Kd.R_append (Kd.int .u8) (w0 := w) w.heap.size rfl (.tmp 74) (.tmp 75) 45 5 (.int .u8 0) 1 rfl Tryd.underlying45 info5 rfl (by decide) (by omega) u7 x7_1 0 [.int .u8 0] (fun _ => True) (fun _ => False) rfl rfl ?aP (fun _ hk => hk.elim) ?aF ?aO ?aB ?aS ?aL ?_; (case aP => exact rfl); (case aB => exact bA); (case aF => exact (fun _ _ => trivial)); (case aO => exact (by (with_reducible repeat (first | apply Kd.R_alloc | apply Kd.R_drewN | apply Kd.R_drew)); exact HO_7.out)); (case aS => exact (below_size bA)); (case aL => have := LMc59.out; omega); intro v187 w62 ho hb hg hat; rw [← Ny186.out] at ho; have HO188 := as_ (ho); replace BK168 := as_ (blk_grown (g := gb168) (o := .cells #[.int .i64 a0_0, .int .i64 a0_1, .int .u64 a0_2, .string a0_3] 56 (0, 0)) (bk BK168) hg (Kd.R_ne HO_7.out BK168.out (by decide))); replace HB := as_ (hb); clear HO_7; clear ho hb hg hat) | ((with_reducible refine gate_builtin (b := .append) (xs := #[.tmp 77, .tmp 78]) rfl ?_); at_builtin; refine Kd.R_append (Kd.int .u8) (w0 := w) w.heap.size rfl (.tmp 77) (.tmp 78) 45 5 (.int .u8 0) 1 rfl Tryd.underlying45 info5 rfl (by decide) (by omega) v187 y186 1 [.int .u8 1] (fun _ => True) (fun _ => False) rfl rfl ?aP (fun _ hk => hk.elim) ?aF ?aO ?aB ?aS ?aL ?_; (case aP => exact rfl); (case aB => exact bA); (case aF => exact (fun _ _ => trivial)); (case aO => exact (by (with_reducible repeat (first | apply Kd.R_alloc | apply Kd.R_drewN | apply Kd.R_drew)); exact HO188.out)); (case aS => exact (below_size bA)); (case aL => have := LMc60.out; omega); intro v190 w63 ho hb hg hat; rw [← Ny189.out] at ho; have HO191 := as_ (ho); replace BK168 := as_ (blk_grown (g := gb168) (o := .cells #[.int .i64 a0_0, .int .i64 a0_1, .int .u64 a0_2, .string a0_3] 56 (0, 0)) (bk BK168) hg (Kd.R_ne HO188.out BK168.out (by decide))); replace HB := as_ (hb); clear HO188; clear ho hb hg hat; have hcv64 := own_string (P := Tryd.prog) Tryd.underlying45 Tryd.underlying5 Tryd.underlying9 (Kd.own_of_R HO191.out)))
    go_ret2
    exact ⟨eW, by repeat (first | (with_reducible first | exact HB.out | apply below_alloc | apply pw_below_drewN | apply below_drew1 | refine below_set ?_ GE168.out) | exact HB.out)⟩
   rw [if_pos c45] at H
   have c45b0 : decide (x8_1 < (a0_3.size : Int)) = true := decide_eq_true c45
   clear c45
   by_cases c46 : 0 ≤ x8_1
   rotate_left
   ·rw [if_neg c46] at H
    exact absurd H (by simp)
   rw [if_pos c46] at H
   have c46b0 : decide (0 ≤ x8_1) = true := decide_eq_true c46
   clear c46
   by_cases c48 : x7_1.length < 140737488355328
   rotate_left
   ·rw [if_neg c48] at H
    exact absurd H (by simp)
   rw [if_pos c48] at H
   have LMc48 := Aside0.mk c48
   clear c48
   obtain ⟨y180, hy180⟩ : ∃ y_ : List Int, y_ = (x7_1 ++ [bt a0_3 x8_1]) := ⟨_, rfl⟩
   replace H : (if (bt a0_3 x8_1) = 0 then (if y180.length < 140737488355328 then (withyref03_Put.l1 k1 (y180 ++ [255]) (wrap64 (x8_1 + 1)) a0_0 a0_1 a0_2 a0_3) else (none)) else (withyref03_Put.l1 k1 y180 (wrap64 (x8_1 + 1)) a0_0 a0_1 a0_2 a0_3)) = some (r1, r2) := by first | (rw [hy180]; with_reducible exact H) | (have H2_ := (Option.bind_some _ _).symm.trans H; rw [hy180]; with_reducible exact H2_) | (have H2_ := (Option.bind_some _ _).symm.trans H; with_reducible exact H2_) | with_reducible exact H | (rw [hy180]; exact H) | exact H
   have Ny180 := Aside0.mk hy180
   clear hy180
   by_cases c50 : (bt a0_3 x8_1) = 0
   rotate_left
   ·rw [if_neg c50] at H
    have c50b0 : ((bt a0_3 x8_1) == 0) = false := beq_eq_false_iff_ne.mpr c50
    have c50b1 : ((bt a0_3 x8_1) != 0) = true := bne_iff_ne.mpr c50
    have H' := Aside0.mk H
    clear H
    obtain ⟨hcz56_0, hcz56_1, hcz56_2, hcz56_3⟩ := zc4 BK168
    obtain ⟨hfz56_0, hfz56_1, hfz56_2, hfz56_3⟩ := zf4 BK168
    have p47 : 0 ≤ (x8_1 : Int) := of_decide_eq_true aM
    have q47 : x8_1 < (a0_3.size : Int) := of_decide_eq_true aM
    have hx47 := bt_at a0_3 x8_1
    replace p47 := eq_true p47
    replace q47 := eq_true q47
    go_wp2_with (first | ((with_reducible refine gate_builtin (b := .append) (xs := #[.tmp 59, .tmp 64]) rfl ?_); at_builtin; refine Kd.R_append (Kd.int .u8) (w0 := w) w.heap.size rfl (.tmp 59) (.tmp 64) 45 5 (.int .u8 0) 1 rfl Tryd.underlying45 info5 rfl (by decide) (by omega) u7 x7_1 (bt a0_3 x8_1) [.int .u8 (bt a0_3 x8_1)] (fun _ => True) (fun _ => False) rfl rfl ?aP (fun _ hk => hk.elim) ?aF ?aO ?aB ?aS ?aL ?_; (case aP => exact rfl); (case aB => exact bA); (case aF => exact (fun _ _ => trivial)); (case aO => exact (by (with_reducible repeat (first | apply Kd.R_alloc | apply Kd.R_drewN | apply Kd.R_drew)); exact HO_7.out)); (case aS => exact (below_size bA)); (case aL => have := LMc48.out; omega); intro v181 w57 ho hb hg hat; rw [← Ny180.out] at ho; have HO182 := as_ (ho); replace BK168 := as_ (blk_grown (g := gb168) (o := .cells #[.int .i64 a0_0, .int .i64 a0_1, .int .u64 a0_2, .string a0_3] 56 (0, 0)) (bk BK168) hg (Kd.R_ne HO_7.out BK168.out (by decide))); replace HB := as_ (hb); clear HO_7; clear ho hb hg hat; obtain ⟨hcz58_0, hcz58_1, hcz58_2, hcz58_3⟩ := zc4 BK168; obtain ⟨hfz58_0, hfz58_1, hfz58_2, hfz58_3⟩ := zf4 BK168; have p49 : 0 ≤ (x8_1 : Int) := of_decide_eq_true aM; have q49 : x8_1 < (a0_3.size : Int) := of_decide_eq_true aM; have hx49 := bt_at a0_3 x8_1; replace p49 := eq_true p49; replace q49 := eq_true q49))
    go_roundg k1
    case measure => have := HK1.out; omega
    case rel => exact ⟨(y180), (wrap64 (x8_1 + 1)), (by first | rfl | (simp; done) | (simp [*]; done)), H', ⟨by have := HK1.out; omega⟩, ⟨by (with_reducible repeat (first | apply Kd.R_alloc | apply Kd.R_drewN | apply Kd.R_drew)); exact HO182.out⟩, ⟨by refine bx ?_; exact BK168.out⟩, ⟨by repeat (first | (with_reducible first | exact HB.out | apply below_alloc | apply pw_below_drewN | apply below_drew1 | refine below_set ?_ GE168.out) | exact HB.out)⟩⟩
   rw [if_pos c50] at H
   have c50b0 : ((bt a0_3 x8_1) == 0) = true := beq_iff_eq.mpr c50
   have c50b1 : ((bt a0_3 x8_1) != 0) = false := bne_eq_false_iff_eq.mpr c50
   clear c50
   by_cases c51 : y180.length < 140737488355328
   rotate_left
   ·rw [if_neg c51] at H
    exact absurd H (by simp)
   rw [if_pos c51] at H
   have LMc51 := Aside0.mk c51
   clear c51
   obtain ⟨y183, hy183⟩ : ∃ y_ : List Int, y_ = (y180 ++ [255]) := ⟨_, rfl⟩
   replace H : (withyref03_Put.l1 k1 y183 (wrap64 (x8_1 + 1)) a0_0 a0_1 a0_2 a0_3) = some (r1, r2) := by first | (rw [hy183]; with_reducible exact H) | (have H2_ := (Option.bind_some _ _).symm.trans H; rw [hy183]; with_reducible exact H2_) | (have H2_ := (Option.bind_some _ _).symm.trans H; with_reducible exact H2_) | with_reducible exact H | (rw [hy183]; exact H) | exact H
   have Ny183 := Aside0.mk hy183
   clear hy183
   have H' := Aside0.mk H
   clear H
   obtain ⟨hcz52_0, hcz52_1, hcz52_2, hcz52_3⟩ := zc4 BK168
   obtain ⟨hfz52_0, hfz52_1, hfz52_2, hfz52_3⟩ := zf4 BK168
   have p47 : 0 ≤ (x8_1 : Int) := of_decide_eq_true aM
   have q47 : x8_1 < (a0_3.size : Int) := of_decide_eq_true aM
   have hx47 := bt_at a0_3 x8_1
   replace p47 := eq_true p47
   replace q47 := eq_true q47
   go_wp2_with (first | ((with_reducible refine gate_builtin (b := .append) (xs := #[.tmp 59, .tmp 64]) rfl ?_); at_builtin; refine Kd.R_append (Kd.int .u8) (w0 := w) w.heap.size rfl (.tmp 59) (.tmp 64) 45 5 (.int .u8 0) 1 rfl Tryd.underlying45 info5 rfl (by decide) (by omega) u7 x7_1 (bt a0_3 x8_1) [.int .u8 (bt a0_3 x8_1)] (fun _ => True) (fun _ => False) rfl rfl ?aP (fun _ hk => hk.elim) ?aF ?aO ?aB ?aS ?aL ?_; (case aP => exact rfl); (case aB => exact bA); (case aF => exact (fun _ _ => trivial)); (case aO => exact (by (with_reducible repeat (first | apply Kd.R_alloc | apply Kd.R_drewN | apply Kd.R_drew)); exact HO_7.out)); (case aS => exact (below_size bA)); (case aL => have := LMc48.out; omega); intro v181 w53 ho hb hg hat; rw [← Ny180.out] at ho; have HO182 := as_ (ho); replace BK168 := as_ (blk_grown (g := gb168) (o := .cells #[.int .i64 a0_0, .int .i64 a0_1, .int .u64 a0_2, .string a0_3] 56 (0, 0)) (bk BK168) hg (Kd.R_ne HO_7.out BK168.out (by decide))); replace HB := as_ (hb); clear HO_7; clear ho hb hg hat; obtain ⟨hcz54_0, hcz54_1, hcz54_2, hcz54_3⟩ := zc4 BK168; obtain ⟨hfz54_0, hfz54_1, hfz54_2, hfz54_3⟩ := zf4 BK168; have p49 : 0 ≤ (x8_1 : Int) := of_decide_eq_true aM; have q49 : x8_1 < (a0_3.size : Int) := of_decide_eq_true aM; have hx49 := bt_at a0_3 x8_1; replace p49 := eq_true p49; replace q49 := eq_true q49) | ((with_reducible refine gate_builtin (b := .append) (xs := #[.tmp 71, .tmp 72]) rfl ?_); at_builtin; refine Kd.R_append (Kd.int .u8) (w0 := w) w.heap.size rfl (.tmp 71) (.tmp 72) 45 5 (.int .u8 0) 1 rfl Tryd.underlying45 info5 rfl (by decide) (by omega) v181 y180 255 [.int .u8 255] (fun _ => True) (fun _ => False) rfl rfl ?aP (fun _ hk => hk.elim) ?aF ?aO ?aB ?aS ?aL ?_; (case aP => exact rfl); (case aB => exact bA); (case aF => exact (fun _ _ => trivial)); (case aO => exact (by (with_reducible repeat (first | apply Kd.R_alloc | apply Kd.R_drewN | apply Kd.R_drew)); exact HO182.out)); (case aS => exact (below_size bA)); (case aL => have := LMc51.out; omega); intro v184 w55 ho hb hg hat; rw [← Ny183.out] at ho; have HO185 := as_ (ho); replace BK168 := as_ (blk_grown (g := gb168) (o := .cells #[.int .i64 a0_0, .int .i64 a0_1, .int .u64 a0_2, .string a0_3] 56 (0, 0)) (bk BK168) hg (Kd.R_ne HO182.out BK168.out (by decide))); replace HB := as_ (hb); clear HO182; clear ho hb hg hat))
   go_roundg k1
   case measure => have := HK1.out; omega
   case rel => exact ⟨(y183), (wrap64 (x8_1 + 1)), (by first | rfl | (simp; done) | (simp [*]; done)), H', ⟨by have := HK1.out; omega⟩, ⟨by (with_reducible repeat (first | apply Kd.R_alloc | apply Kd.R_drewN | apply Kd.R_drew)); exact HO185.out⟩, ⟨by refine bx ?_; exact BK168.out⟩, ⟨by repeat (first | (with_reducible first | exact HB.out | apply below_alloc | apply pw_below_drewN | apply below_drew1 | refine below_set ?_ GE168.out) | exact HB.out)⟩⟩
/-! ### withyref04_Put: function 11 -/
def withyref04_Put.l0 : Nat → List (S56) → ByteArray → Int → Option (ByteArray × Int)
 | 0, _, _, _ => none
 | k + 1, x0, x4, x5 => if x5 < (x0.length : Int) then (if 0 ≤ x5 then ((withyref03_Put.f k ((rd_T56 x0 x5).f0) ((rd_T56 x0 x5).f1) ((rd_T56 x0 x5).f2) ((rd_T56 x0 x5).f3)).bind fun bt193 => (if bt193.2 = 0 then (if x4.size + bt193.1.size ≤ 9223372036854775807 then (withyref04_Put.l0 k x0 (x4 ++ bt193.1) (wrap64 (x5 + 1))) else (none)) else (some ((⟨#[]⟩ : ByteArray), bt193.2)))) else (none)) else (if x4.size + 1 ≤ 9223372036854775807 then (some (x4 ++ (⟨#[1]⟩ : ByteArray), 0)) else (none))
def withyref04_Put.f (k : Nat) (l0 : List (S56)) : Option (ByteArray × Int) := withyref04_Put.l0 k l0 (⟨#[]⟩ : ByteArray) 0
theorem withyref04_Put.mono_l : ∀ k, (∀ y0 y1 y2, LeO (withyref04_Put.l0 k y0 y1 y2) (withyref04_Put.l0 (k + 1) y0 y1 y2))
 | 0 => fun _ _ _ r h => by simp [withyref04_Put.l0] at h
 | k + 1 => by
  have ih0 := withyref04_Put.mono_l k
  ·intro y0 y1 y2
   unfold withyref04_Put.l0
   repeat' first
   | (with_reducible exact ih0 _ _ _)
   | (with_reducible exact withyref03_Put.mono _ _ _ _ _)
   | (with_reducible exact LeO.refl _)
   | (with_reducible exact LeO.none _)
   | (with_reducible refine LeO.ite ?_ ?_)
   | (with_reducible refine LeO.bind ?_ (fun _ => ?_))
   | exact ih0 _ _ _
   | exact withyref03_Put.mono _ _ _ _ _
   | exact LeO.none _
   | refine LeO.ite ?_ ?_
   | refine LeO.bind ?_ (fun _ => ?_)
theorem withyref04_Put.mono : ∀ a0 k, LeO (withyref04_Put.f k a0) (withyref04_Put.f (k + 1) a0) := by
 intro a0 k
 have ih0 := withyref04_Put.mono_l k
 unfold withyref04_Put.f
 repeat' first
   | (with_reducible exact ih0 _ _ _)
   | (with_reducible exact withyref03_Put.mono _ _ _ _ _)
   | (with_reducible exact LeO.refl _)
   | (with_reducible exact LeO.none _)
   | (with_reducible refine LeO.ite ?_ ?_)
   | (with_reducible refine LeO.bind ?_ (fun _ => ?_))
   | exact ih0 _ _ _
   | exact withyref03_Put.mono _ _ _ _ _
   | exact LeO.none _
   | refine LeO.ite ?_ ?_
   | refine LeO.bind ?_ (fun _ => ?_)
set_option maxHeartbeats 8000000 in
set_option maxRecDepth 100000 in
theorem withyref04_Put.calls (k : Nat) (A0 : Option Addr) (c0 : Nat) (l0 : List (S56)) (r1 : ByteArray) (r2 : Int) (w : World) (hr0 : Kd.C k56 w A0 l0.length l0) (hc0 : l0.length ≤ c0) (h : withyref04_Put.f k l0 = some (r1, r2)) :
  Calls Tryd.prog 11 #[.slice A0 l0.length c0] w fun e w' => e = .returned (.tuple #[.string r1, .int .i64 r2]) ∧ Below w.heap.size w w' := by
 have hu56 := Tryd.underlying56
 have HR0 := Aside0.mk hr0
 have HC0 := Aside0.mk hc0
 clear hr0 hc0
 have HB := as_ (Below.refl w.heap.size w)
 have H : (withyref04_Put.l0 k l0 (⟨#[]⟩ : ByteArray) 0) = some (r1, r2) := h
 clear h
 have H' := Aside0.mk H
 clear H
 go_enter Tryd.func11, Tryd.ntmps11
 go_wp2
 go_loopg [4, 5] k (fun kq v4 v5 w' => ∃ (x4_1 : ByteArray) (x5_1 : Int), v4 = .string x4_1 ∧ v5 = .int .i64 x5_1 ∧ Aside0 (withyref04_Put.l0 kq l0 x4_1 x5_1 = some (r1, r2)) ∧ Aside0 (kq ≤ k) ∧ Aside0 (Below w.heap.size w w'))
 case atStart => exact ⟨((⟨#[]⟩ : ByteArray)), (0), (by first | rfl | (simp; done) | (simp [*]; done)), (by first | rfl | (simp; done) | (simp [*]; done)), H', ⟨Nat.le_refl _⟩, ⟨by repeat (first | (with_reducible first | exact HB.out | apply below_alloc | apply pw_below_drewN | apply below_drew1) | exact HB.out)⟩⟩
 case round =>
  clear H'
  try clear c1
  obtain ⟨x4_1, x5_1, rfl, rfl, HA, HK1, HB⟩ := hrel
  cases gk with
  | zero => exact absurd HA.out (by simp [withyref04_Put.l0])
  | succ k1 =>
   have H := HA.out
   clear HA
   simp only [withyref04_Put.l0] at H
   by_cases c2 : x5_1 < (l0.length : Int)
   rotate_left
   ·rw [if_neg c2] at H
    have c2b0 : decide (x5_1 < (l0.length : Int)) = false := decide_eq_false c2
    clear c2
    by_cases c10 : x4_1.size + 1 ≤ 9223372036854775807
    rotate_left
    ·rw [if_neg c10] at H
     exact absurd H (by simp)
  
    rw [if_pos c10] at H
    have c10b0 := eq_true c10
    have c10b1 : decide (x4_1.size + 1 ≤ 9223372036854775807) = true := decide_eq_true c10
    try have c10b2 : (9223372036854775807 < x4_1.size + 1) = False := eq_false (Nat.not_lt.2 c10)
    obtain ⟨js11, hjs11⟩ : ∃ j_ : ByteArray, (x4_1 ++ (⟨#[1]⟩ : ByteArray)) = j_ := ⟨_, rfl⟩
    replace H : (some (js11, 0)) = some (r1, r2) := by first | (rw [hjs11] at H; exact H) | (simp only [hjs11] at H ⊢; exact H)
    simp only [Option.some.injEq, Prod.mk.injEq] at H
    obtain ⟨rfl, rfl⟩ := H
    go_wp2
    go_ret2
    exact ⟨by first | rfl | (simp [errW_none, errW_some] <;> rfl) | (simp only [← hjs11]; first | rfl | (simp [errW_none, errW_some] <;> rfl)) | (simp [*, errW_none, errW_some] <;> rfl), by repeat (first | (with_reducible first | exact HB.out | apply below_alloc | apply pw_below_drewN | apply below_drew1) | exact HB.out)⟩
   rw [if_pos c2] at H
   have c2b0 : decide (x5_1 < (l0.length : Int)) = true := decide_eq_true c2
   clear c2
   by_cases c3 : 0 ≤ x5_1
   rotate_left
   ·rw [if_neg c3] at H
    exact absurd H (by simp)
   rw [if_pos c3] at H
   have c3b0 : decide (0 ≤ x5_1) = true := decide_eq_true c3
   clear c3
   replace H := bM H
   obtain ⟨⟨t193, t194⟩, A40, H⟩ := H
   replace H : (if t194 = 0 then (if x4_1.size + t193.size ≤ 9223372036854775807 then (withyref04_Put.l0 k1 l0 (x4_1 ++ t193) (wrap64 (x5_1 + 1))) else (none)) else (some ((⟨#[]⟩ : ByteArray), t194))) = some (r1, r2) := H
   have A4 := Aside0.mk A40
   clear A40
   by_cases c5 : t194 = 0
   rotate_left
   ·rw [if_neg c5] at H
    have c5b0 : (t194 == 0) = false := beq_eq_false_iff_ne.mpr c5
    have c5b1 : (t194 != 0) = true := bne_iff_ne.mpr c5
    simp only [Option.some.injEq, Prod.mk.injEq] at H
    obtain ⟨rfl, rfl⟩ := H
    have p192 : 0 ≤ (x5_1 : Int) := of_decide_eq_true aM
    have q192 : x5_1 < (l0.length : Int) := of_decide_eq_true aM
    obtain ⟨ad192, e192, hx192_0, hx192_1, hx192_2, hx192_3⟩ := at_T56 HR0.out x5_1 p192 q192
    cases e192
    replace hx192_0 := (HB.out.cell (World.block_lt_of_cell? w _ hx192_0)).trans hx192_0
    replace hx192_1 := (HB.out.cell (World.block_lt_of_cell? w _ hx192_1)).trans hx192_1
    replace hx192_2 := (HB.out.cell (World.block_lt_of_cell? w _ hx192_2)).trans hx192_2
    replace hx192_3 := (HB.out.cell (World.block_lt_of_cell? w _ hx192_3)).trans hx192_3
    replace p192 := eq_true p192
    replace q192 := eq_true q192
    go_wp2_with (first | ((with_reducible refine gate_callee (f := 24) rfl ?_); refine goesL_ (some 19) rfl rfl Tryd.func24 (by kernel_rfl) rfl #[.agg #[.int .i64 ((rd_T56 l0 x5_1).f0), .int .i64 ((rd_T56 l0 x5_1).f1), .int .u64 ((rd_T56 l0 x5_1).f2), .string ((rd_T56 l0 x5_1).f3)]] rfl aO ?_; (with_reducible refine (withyref03_Put.calls k1 ((rd_T56 l0 x5_1).f0) ((rd_T56 l0 x5_1).f1) ((rd_T56 l0 x5_1).f2) ((rd_T56 l0 x5_1).f3) t193 t194 _ A4.out).mono ?_); rintro e w9 ⟨rfl, hb⟩; refine ⟨_, rfl, ?_⟩; replace HB := as_ (below_step bA hb); (try clear hb); (try clear hb2); (try clear hk); (try clear hi)))
    go_ret2
    exact ⟨eW, by repeat (first | (with_reducible first | exact HB.out | apply below_alloc | apply pw_below_drewN | apply below_drew1) | exact HB.out)⟩
   rw [if_pos c5] at H
   have c5b0 : (t194 == 0) = true := beq_iff_eq.mpr c5
   have c5b1 : (t194 != 0) = false := bne_eq_false_iff_eq.mpr c5
   clear c5
   by_cases c6 : x4_1.size + t193.size ≤ 9223372036854775807
   rotate_left
   ·rw [if_neg c6] at H
    exact absurd H (by simp)
   rw [if_pos c6] at H
   have c6b0 := eq_true c6
   have c6b1 : decide (x4_1.size + t193.size ≤ 9223372036854775807) = true := decide_eq_true c6
   try have c6b2 : (9223372036854775807 < x4_1.size + t193.size) = False := eq_false (Nat.not_lt.2 c6)
   obtain ⟨js7, hjs7⟩ : ∃ j_ : ByteArray, (x4_1 ++ t193) = j_ := ⟨_, rfl⟩
   replace H : (withyref04_Put.l0 k1 l0 js7 (wrap64 (x5_1 + 1))) = some (r1, r2) := by first | (rw [hjs7] at H; exact H) | (simp only [hjs7] at H ⊢; exact H)
   (try rw [hjs7] at A4)
   have H' := Aside0.mk H
   clear H
   have p192 : 0 ≤ (x5_1 : Int) := of_decide_eq_true aM
   have q192 : x5_1 < (l0.length : Int) := of_decide_eq_true aM
   obtain ⟨ad192, e192, hx192_0, hx192_1, hx192_2, hx192_3⟩ := at_T56 HR0.out x5_1 p192 q192
   cases e192
   replace hx192_0 := (HB.out.cell (World.block_lt_of_cell? w _ hx192_0)).trans hx192_0
   replace hx192_1 := (HB.out.cell (World.block_lt_of_cell? w _ hx192_1)).trans hx192_1
   replace hx192_2 := (HB.out.cell (World.block_lt_of_cell? w _ hx192_2)).trans hx192_2
   replace hx192_3 := (HB.out.cell (World.block_lt_of_cell? w _ hx192_3)).trans hx192_3
   replace p192 := eq_true p192
   replace q192 := eq_true q192
   go_wp2_with (first | ((with_reducible refine gate_callee (f := 24) rfl ?_); refine goesL_ (some 19) rfl rfl Tryd.func24 (by kernel_rfl) rfl #[.agg #[.int .i64 ((rd_T56 l0 x5_1).f0), .int .i64 ((rd_T56 l0 x5_1).f1), .int .u64 ((rd_T56 l0 x5_1).f2), .string ((rd_T56 l0 x5_1).f3)]] rfl aO ?_; (with_reducible refine (withyref03_Put.calls k1 ((rd_T56 l0 x5_1).f0) ((rd_T56 l0 x5_1).f1) ((rd_T56 l0 x5_1).f2) ((rd_T56 l0 x5_1).f3) t193 t194 _ A4.out).mono ?_); rintro e w8 ⟨rfl, hb⟩; refine ⟨_, rfl, ?_⟩; replace HB := as_ (below_step bA hb); (try clear hb); (try clear hb2); (try clear hk); (try clear hi)))
   go_roundg k1
   case measure => have := HK1.out; omega
   case rel => exact ⟨(js7), (wrap64 (x5_1 + 1)), (by first | rfl | (simp; done) | (simp only [← hjs7] <;> (first | rfl | simp)) | (simp [*]; done)), (by first | rfl | (simp; done) | (simp [*]; done)), H', ⟨by have := HK1.out; omega⟩, ⟨by repeat (first | (with_reducible first | exact HB.out | apply below_alloc | apply pw_below_drewN | apply below_drew1) | exact HB.out)⟩⟩
/-! ### withylaw03_Ref: function 25 -/
def withylaw03_Ref.f (a0_0 : Int) (a0_1 : Int) (a0_2 : Int) (a0_3 : ByteArray) : Option (Int × Int × Int × ByteArray) := some (a0_0, a0_1, a0_2, a0_3)
set_option maxHeartbeats 8000000 in
set_option maxRecDepth 100000 in
theorem withylaw03_Ref.calls (a0_0 : Int) (a0_1 : Int) (a0_2 : Int) (a0_3 : ByteArray) (r1 : Int) (r2 : Int) (r3 : Int) (r4 : ByteArray) (w : World) (h : withylaw03_Ref.f a0_0 a0_1 a0_2 a0_3 = some (r1, r2, r3, r4)) :
  Calls Tryd.prog 25 #[.agg #[.int .i64 a0_0, .int .i64 a0_1, .int .u64 a0_2, .string a0_3]] w fun e w' => e = .returned (.agg #[.int .i64 r1, .int .i64 r2, .int .u64 r3, .string r4]) ∧ Below w.heap.size w w' := by
 have hu51 := Tryd.underlying51
 have hu56 := Tryd.underlying56
 have HB := as_ (Below.refl w.heap.size w)
 have H : (some (a0_0, a0_1, a0_2, a0_3)) = some (r1, r2, r3, r4) := h
 clear h
 simp only [Option.some.injEq, Prod.mk.injEq] at H
 obtain ⟨rfl, rfl, rfl, rfl⟩ := H
 go_enter Tryd.func25, Tryd.ntmps25
 go_wp2_with (first | ((with_reducible refine gate_dst (N := 1) rfl ?_); refine box_event (by rfl) (N := 1) (by rfl) (cs := #[.int .i64 a0_0, .int .i64 a0_1, .int .u64 a0_2, .string a0_3]) (t := 51) gS ?_; intro gb195 hg w2 hbox hb; have BK195 := as_ (hbox); have GW195 := gw hg bA; have GE195 := gw hg bA; replace HB := as_ (below_step bA hb); clear hb hbox hg) | ((with_reducible refine gate_dst (N := 2) rfl ?_); refine box_event ?hg (N := 2) ?hd (cs := #[.int .i64 0, .int .i64 0, .int .u64 0, .string (⟨#[]⟩ : ByteArray)]) (t := 56) ?hr ?_; (case hd => rfl); (case hg => rfl); (case hr => first | (go_simp; done) | (go_simp; rfl)); intro gb196 hg w3 hbox hb; have BK196 := as_ (hbox); have GW196 := gw hg bA; have GE196 := gw hg bA; have NB195_196 := nl BK195 hg; have NB196_195 := ng BK195 hg; replace BK195 := bb BK195 hb; replace HB := as_ (below_step bA hb); clear hb hbox hg; have hnb4 := NB195_196.out; have hnc4 := NB196_195.out; obtain ⟨hcz5_0, hcz5_1, hcz5_2, hcz5_3⟩ := zc4 BK195; obtain ⟨hfz5_0, hfz5_1, hfz5_2, hfz5_3⟩ := zf4 BK195; obtain ⟨hcz6_0, hcz6_1, hcz6_2, hcz6_3⟩ := zc4 BK196; obtain ⟨hfz6_0, hfz6_1, hfz6_2, hfz6_3⟩ := zf4 BK196))
 refine bodyPost_ret (results_cell_row rfl _ _ gb196 56 #[.int .i64 a0_0, .int .i64 a0_1, .int .u64 a0_2, .string a0_3] (0, 0) _ rfl (by refine bx ?_; refine blk_put (cs := #[.int .i64 a0_0, .int .i64 a0_1, .int .u64 a0_2, .string (⟨#[]⟩ : ByteArray)]) ?_ 3 _ rfl; refine bx ?_; refine blk_put (cs := #[.int .i64 a0_0, .int .i64 a0_1, .int .u64 0, .string (⟨#[]⟩ : ByteArray)]) ?_ 2 _ rfl; refine bx ?_; refine blk_put (cs := #[.int .i64 a0_0, .int .i64 0, .int .u64 0, .string (⟨#[]⟩ : ByteArray)]) ?_ 1 _ rfl; refine bx ?_; refine blk_put (cs := #[.int .i64 0, .int .i64 0, .int .u64 0, .string (⟨#[]⟩ : ByteArray)]) ?_ 0 _ rfl; refine bx ?_; exact BK196.out) Tryd.underlying56 rfl (by kernel_rfl)) rfl ?_
 exact ⟨eW, by repeat (first | (with_reducible first | exact HB.out | apply below_alloc | apply pw_below_drewN | apply below_drew1 | refine below_set ?_ GE195.out | refine below_set ?_ GE196.out) | exact HB.out)⟩

/-! ### withylaw04_Ref: function 12 -/
def withylaw04_Ref.l0 : Nat → List (S51) → List (S56) → Int → Option ((List (S56)))
 | 0, _, _, _ => none
 | k + 1, x0, x3, x4 => if x4 < (x0.length : Int) then (if 0 ≤ x4 then ((withylaw03_Ref.f ((rd_T51 x0 x4).f0) ((rd_T51 x0 x4).f1) ((rd_T51 x0 x4).f2) ((rd_T51 x0 x4).f3)).bind fun bt201 => (if x3.length < 3518437208883 then (withylaw04_Ref.l0 k x0 (x3 ++ [(⟨bt201.1, bt201.2.1, bt201.2.2.1, bt201.2.2.2⟩ : S56)]) (wrap64 (x4 + 1))) else (none))) else (none)) else (some x3)
def withylaw04_Ref.f (k : Nat) (l0 : List (S51)) : Option ((List (S56))) := withylaw04_Ref.l0 k l0 (([] : List (S56))) 0
theorem withylaw04_Ref.mono_l : ∀ k, (∀ y0 y1 y2, LeO (withylaw04_Ref.l0 k y0 y1 y2) (withylaw04_Ref.l0 (k + 1) y0 y1 y2))
 | 0 => fun _ _ _ r h => by simp [withylaw04_Ref.l0] at h
 | k + 1 => by
  have ih0 := withylaw04_Ref.mono_l k
  ·intro y0 y1 y2
   unfold withylaw04_Ref.l0
   repeat' first
   | (with_reducible exact ih0 _ _ _)
   | (with_reducible exact LeO.refl _)
   | (with_reducible exact LeO.none _)
   | (with_reducible refine LeO.ite ?_ ?_)
   | (with_reducible refine LeO.bind ?_ (fun _ => ?_))
   | exact ih0 _ _ _
   | exact LeO.none _
   | refine LeO.ite ?_ ?_
   | refine LeO.bind ?_ (fun _ => ?_)
theorem withylaw04_Ref.mono : ∀ a0 k, LeO (withylaw04_Ref.f k a0) (withylaw04_Ref.f (k + 1) a0) := by
 intro a0 k
 have ih0 := withylaw04_Ref.mono_l k
 unfold withylaw04_Ref.f
 repeat' first
   | (with_reducible exact ih0 _ _ _)
   | (with_reducible exact LeO.refl _)
   | (with_reducible exact LeO.none _)
   | (with_reducible refine LeO.ite ?_ ?_)
   | (with_reducible refine LeO.bind ?_ (fun _ => ?_))
   | exact ih0 _ _ _
   | exact LeO.none _
   | refine LeO.ite ?_ ?_
   | refine LeO.bind ?_ (fun _ => ?_)
set_option maxHeartbeats 8000000 in
set_option maxRecDepth 100000 in
theorem withylaw04_Ref.calls (k : Nat) (A0 : Option Addr) (c0 : Nat) (l0 : List (S51)) (r : List (S56)) (w : World) (hr0 : Kd.C k51 w A0 l0.length l0) (hc0 : l0.length ≤ c0) (h : withylaw04_Ref.f k l0 = some r) :
  Calls Tryd.prog 12 #[.slice A0 l0.length c0] w fun e w' => ∃ v0_ : Value, e = .returned (v0_) ∧ Kd.R k56 56 w' w.heap.size (fun _ => True) v0_ r ∧ Below w.heap.size w w' := by
 have hu51 := Tryd.underlying51
 have HR0 := Aside0.mk hr0
 have HC0 := Aside0.mk hc0
 clear hr0 hc0
 have HB := as_ (Below.refl w.heap.size w)
 have H : (withylaw04_Ref.l0 k l0 (([] : List (S56))) 0) = some r := h
 clear h
 obtain ⟨y197, hy197⟩ : ∃ y_ : List (S56), y_ = (([] : List (S56))) := ⟨_, rfl⟩
 replace H : (withylaw04_Ref.l0 k l0 y197 0) = some r := by first | (rw [hy197]; with_reducible exact H) | (have H2_ := (Option.bind_some _ _).symm.trans H; rw [hy197]; with_reducible exact H2_) | (have H2_ := (Option.bind_some _ _).symm.trans H; with_reducible exact H2_) | with_reducible exact H | (rw [hy197]; exact H) | exact H
 have Ny197 := Aside0.mk hy197
 clear hy197
 have H' := Aside0.mk H
 clear H
 go_enter Tryd.func12, Tryd.ntmps12
 go_wp2_with (first | ((with_reducible refine gate_dst (N := 5) rfl ?_); refine Kd.R_lit k56 _ 56 ?hg (N := 5) ?hd (xs := ([] : List (S56))) (inner := []) (ok := fun _ => True) (okp := fun _ => True) ?hr ?hp (fun _ hk => hk) trivial (Below.refl _ _) (Nat.le_refl _) (by simp) ?_; (case hd => rfl); (case hg => rfl); (case hr => first | (go_simp; done) | (go_simp; rfl)); (case hp => exact (Reps.none _ _)); intro v198 w2 ho3 hb hg_ hnew_; clear hg_ hnew_; (first | rw [← Ny197.out] at ho3 | (simp only [Int.reduceToNat] at ho3; rw [← Ny197.out] at ho3)); have HO199 := as_ (Kd.R_lower ho3 (below_size bA)); replace HB := as_ (below_step bA hb); clear hb ho3))
 go_loopg [3, 4] k (fun kq v3 v4 w' => ∃ (x3_1 : List (S56)) (x4_1 : Int), v4 = .int .i64 x4_1 ∧ Aside0 (withylaw04_Ref.l0 kq l0 x3_1 x4_1 = some r) ∧ Aside0 (kq ≤ k) ∧ Aside0 (Kd.R k56 56 w' w.heap.size (fun _ => True) v3 x3_1) ∧ Aside0 (Below w.heap.size w w'))
 case atStart => exact ⟨(y197), (0), (by first | rfl | (simp; done) | (simp [*]; done)), H', ⟨Nat.le_refl _⟩, ⟨by (with_reducible repeat (first | apply Kd.R_alloc | apply Kd.R_drewN | apply Kd.R_drew)); exact HO199.out⟩, ⟨by repeat (first | (with_reducible first | exact HB.out | apply below_alloc | apply pw_below_drewN | apply below_drew1) | exact HB.out)⟩⟩
 case round =>
  clear H'
  try clear c1
  try clear p2
  obtain ⟨x3_1, x4_1, rfl, HA, HK1, HO_3, HB⟩ := hrel
  cases gk with
  | zero => exact absurd HA.out (by simp [withylaw04_Ref.l0])
  | succ k1 =>
   have H := HA.out
   clear HA
   simp only [withylaw04_Ref.l0] at H
   by_cases c4 : x4_1 < (l0.length : Int)
   rotate_left
   ·rw [if_neg c4] at H
    have c4b0 : decide (x4_1 < (l0.length : Int)) = false := decide_eq_false c4
    clear c4
    obtain rfl := Option.some.inj H
    go_wp2
    go_ret
    exact ⟨_, eW, by (with_reducible repeat (first | apply Kd.R_alloc | apply Kd.R_drewN | apply Kd.R_drew)); exact HO_3.out, by repeat (first | (with_reducible first | exact HB.out | apply below_alloc | apply pw_below_drewN | apply below_drew1) | exact HB.out)⟩
 
   rw [if_pos c4] at H
   have c4b0 : decide (x4_1 < (l0.length : Int)) = true := decide_eq_true c4
   clear c4
   by_cases c5 : 0 ≤ x4_1
   rotate_left
   ·rw [if_neg c5] at H
    exact absurd H (by simp)
   rw [if_pos c5] at H
   have c5b0 : decide (0 ≤ x4_1) = true := decide_eq_true c5
   clear c5
   replace H := bM H
   obtain ⟨⟨t201, t202, t203, t204⟩, A60, H⟩ := H
   replace H : (if x3_1.length < 3518437208883 then (withylaw04_Ref.l0 k1 l0 (x3_1 ++ [(⟨t201, t202, t203, t204⟩ : S56)]) (wrap64 (x4_1 + 1))) else (none)) = some r := H
   have A6 := Aside0.mk A60
   clear A60
   by_cases c7 : x3_1.length < 3518437208883
   rotate_left
   ·rw [if_neg c7] at H
    exact absurd H (by simp)
   rw [if_pos c7] at H
   have LMc7 := Aside0.mk c7
   clear c7
   obtain ⟨y205, hy205⟩ : ∃ y_ : List (S56), y_ = (x3_1 ++ [(⟨t201, t202, t203, t204⟩ : S56)]) := ⟨_, rfl⟩
   replace H : (withylaw04_Ref.l0 k1 l0 y205 (wrap64 (x4_1 + 1))) = some r := by first | (rw [hy205]; with_reducible exact H) | (have H2_ := (Option.bind_some _ _).symm.trans H; rw [hy205]; with_reducible exact H2_) | (have H2_ := (Option.bind_some _ _).symm.trans H; with_reducible exact H2_) | with_reducible exact H | (rw [hy205]; exact H) | exact H
   have Ny205 := Aside0.mk hy205
   clear hy205
   have H' := Aside0.mk H
   clear H
   have p200 : 0 ≤ (x4_1 : Int) := of_decide_eq_true aM
   have q200 : x4_1 < (l0.length : Int) := of_decide_eq_true aM
   obtain ⟨ad200, e200, hx200_0, hx200_1, hx200_2, hx200_3⟩ := at_T51 HR0.out x4_1 p200 q200
   cases e200
   replace hx200_0 := (HB.out.cell (World.block_lt_of_cell? w _ hx200_0)).trans hx200_0
   replace hx200_1 := (HB.out.cell (World.block_lt_of_cell? w _ hx200_1)).trans hx200_1
   replace hx200_2 := (HB.out.cell (World.block_lt_of_cell? w _ hx200_2)).trans hx200_2
   replace hx200_3 := (HB.out.cell (World.block_lt_of_cell? w _ hx200_3)).trans hx200_3
   replace p200 := eq_true p200
   replace q200 := eq_true q200
   go_wp2_with (first | ((with_reducible refine gate_callee (f := 25) rfl ?_); refine goesL_ (some 17) rfl rfl Tryd.func25 (by kernel_rfl) rfl #[.agg #[.int .i64 ((rd_T51 l0 x4_1).f0), .int .i64 ((rd_T51 l0 x4_1).f1), .int .u64 ((rd_T51 l0 x4_1).f2), .string ((rd_T51 l0 x4_1).f3)]] rfl aO ?_; (with_reducible refine (withylaw03_Ref.calls ((rd_T51 l0 x4_1).f0) ((rd_T51 l0 x4_1).f1) ((rd_T51 l0 x4_1).f2) ((rd_T51 l0 x4_1).f3) t201 t202 t203 t204 _ A6.out).mono ?_); rintro e w8 ⟨rfl, hb⟩; refine ⟨_, rfl, ?_⟩; replace HO_3 := as_ (Kd.R_below (by (with_reducible repeat (first | apply Kd.R_alloc | apply Kd.R_drewN | apply Kd.R_drew)); exact HO_3.out) hb); replace HB := as_ (below_step bA hb); (try clear hb); (try clear hb2); (try clear hk); (try clear hi)) | ((with_reducible refine gate_builtin (b := .append) (xs := #[.tmp 12, .tmp 18]) rfl ?_); at_builtin; refine Kd.R_append k56 (w0 := w) w.heap.size rfl (.tmp 12) (.tmp 18) 30 56 (.agg #[(.int .i64 0), (.int .i64 0), (.int .u64 0), (.string ⟨#[]⟩)]) 40 rfl Tryd.underlying30 info56 rfl (by decide) (by omega) u3 x3_1 (⟨t201, t202, t203, t204⟩ : S56) [.int .i64 t201, .int .i64 t202, .int .u64 t203, .string t204] (fun _ => True) (fun _ => False) rfl rfl ?aP (fun _ hk => hk.elim) ?aF ?aO ?aB ?aS ?aL ?_; (case aP => exact k56_mkM _ _ _ (⟨t201, t202, t203, t204⟩ : S56)); (case aB => exact bA); (case aF => exact (fun _ _ => trivial)); (case aO => exact (by (with_reducible repeat (first | apply Kd.R_alloc | apply Kd.R_drewN | apply Kd.R_drew)); exact HO_3.out)); (case aS => exact (below_size bA)); (case aL => have := LMc7.out; omega); intro v206 w9 ho hb hg hat; rw [← Ny205.out] at ho; have HO207 := as_ (ho); replace HB := as_ (hb); clear HO_3; clear ho hb hg hat))
   go_roundg k1
   case measure => have := HK1.out; omega
   case rel => exact ⟨(y205), (wrap64 (x4_1 + 1)), (by first | rfl | (simp; done) | (simp [*]; done)), H', ⟨by have := HK1.out; omega⟩, ⟨by (with_reducible repeat (first | apply Kd.R_alloc | apply Kd.R_drewN | apply Kd.R_drew)); exact HO207.out⟩, ⟨by repeat (first | (with_reducible first | exact HB.out | apply below_alloc | apply pw_below_drewN | apply below_drew1) | exact HB.out)⟩⟩
/-! ### col_integer: function 68 -/
def col_integer.l0 : Nat → ByteArray → Int → Int → Int → Option (Int × Int × Int)
 | 0, _, _, _, _ => none
 | k + 1, x0, x1, x7, x14 => if x14 < 8 then (if 0 ≤ (wrap64 (x1 + x14)) then (if (wrap64 (x1 + x14)) < (x0.size : Int) then (col_integer.l0 k x0 x1 (Go.bits .or .u64 (IntKind.u64.wrap (x7 * 256)) (IntKind.u64.wrap (bt x0 (wrap64 (x1 + x14))))) (wrap64 (x14 + 1))) else (none)) else (none)) else (some (wrap64 (Go.bits .xor .u64 x7 9223372036854775808), wrap64 (x1 + 8), 0))
def col_integer.f (k : Nat) (a0 : ByteArray) (a1 : Int) : Option (Int × Int × Int) := if (wrap64 ((a0.size : Int) - a1)) < 8 then (some (0, 0, 7)) else (col_integer.l0 k a0 a1 0 0)
theorem col_integer.mono_l : ∀ k, (∀ y0 y1 y2 y3, LeO (col_integer.l0 k y0 y1 y2 y3) (col_integer.l0 (k + 1) y0 y1 y2 y3))
 | 0 => fun _ _ _ _ r h => by simp [col_integer.l0] at h
 | k + 1 => by
  have ih0 := col_integer.mono_l k
  ·intro y0 y1 y2 y3
   unfold col_integer.l0
   repeat' first
   | (with_reducible exact ih0 _ _ _ _)
   | (with_reducible exact LeO.refl _)
   | (with_reducible exact LeO.none _)
   | (with_reducible refine LeO.ite ?_ ?_)
   | (with_reducible refine LeO.bind ?_ (fun _ => ?_))
   | exact ih0 _ _ _ _
   | exact LeO.none _
   | refine LeO.ite ?_ ?_
   | refine LeO.bind ?_ (fun _ => ?_)
theorem col_integer.mono : ∀ a0 a1 k, LeO (col_integer.f k a0 a1) (col_integer.f (k + 1) a0 a1) := by
 intro a0 a1 k
 have ih0 := col_integer.mono_l k
 unfold col_integer.f
 repeat' first
   | (with_reducible exact ih0 _ _ _ _)
   | (with_reducible exact LeO.refl _)
   | (with_reducible exact LeO.none _)
   | (with_reducible refine LeO.ite ?_ ?_)
   | (with_reducible refine LeO.bind ?_ (fun _ => ?_))
   | exact ih0 _ _ _ _
   | exact LeO.none _
   | refine LeO.ite ?_ ?_
   | refine LeO.bind ?_ (fun _ => ?_)
set_option maxHeartbeats 8000000 in
set_option maxRecDepth 100000 in
theorem col_integer.calls (k : Nat) (a0 : ByteArray) (a1 : Int) (r1 : Int) (r2 : Int) (r3 : Int) (w : World) (h : col_integer.f k a0 a1 = some (r1, r2, r3)) :
  Calls Tryd.prog 68 #[.string a0, .int .i64 a1] w fun e w' => e = .returned (.tuple #[.int .i64 r1, .int .i64 r2, .int .i64 r3]) ∧ Drawn0 w w' := by
 have H : (if (wrap64 ((a0.size : Int) - a1)) < 8 then (some (0, 0, 7)) else (col_integer.l0 k a0 a1 0 0)) = some (r1, r2, r3) := h
 clear h
 by_cases c3 : (wrap64 ((a0.size : Int) - a1)) < 8
 ·rw [if_pos c3] at H
  have c3b0 : decide ((wrap64 ((a0.size : Int) - a1)) < 8) = true := decide_eq_true c3
  clear c3
  simp only [Option.some.injEq, Prod.mk.injEq] at H
  obtain ⟨rfl, rfl, rfl⟩ := H
  go_enter Tryd.func68, Tryd.ntmps68
  go_wp2
  go_ret3
  exact ⟨by first | rfl | (simp; done) | (simp [*]; done), by repeat (first | exact Drawn0.refl _ | apply Drawn0.step)⟩
 rw [if_neg c3] at H
 have c3b0 : decide ((wrap64 ((a0.size : Int) - a1)) < 8) = false := decide_eq_false c3
 clear c3
 have H' := Aside0.mk H
 clear H
 go_enter Tryd.func68, Tryd.ntmps68
 go_wp2
 go_loopg [7, 14] k (fun kq v7 v14 w' => ∃ (x7_1 : Int) (x14_1 : Int), v7 = .int .u64 x7_1 ∧ v14 = .int .i64 x14_1 ∧ Aside0 (col_integer.l0 kq a0 a1 x7_1 x14_1 = some (r1, r2, r3)) ∧ Aside0 (kq ≤ k) ∧ Drawn0 w w')
 case atStart => exact ⟨(0), (0), (by first | rfl | (simp; done) | (simp [*]; done)), (by first | rfl | (simp; done) | (simp [*]; done)), H', ⟨Nat.le_refl _⟩, by repeat (first | exact Drawn0.refl _ | apply Drawn0.step)⟩
 case round =>
  clear H'
  try clear p2
  try clear c3
  try clear c3b0
  obtain ⟨x7_1, x14_1, rfl, rfl, HA, HK1, ⟨m1, rfl⟩⟩ := hrel
  cases gk with
  | zero => exact absurd HA.out (by simp [col_integer.l0])
  | succ k1 =>
   have H := HA.out
   clear HA
   simp only [col_integer.l0] at H
   by_cases c4 : x14_1 < 8
   rotate_left
   ·rw [if_neg c4] at H
    have c4b0 : decide (x14_1 < 8) = false := decide_eq_false c4
    clear c4
    simp only [Option.some.injEq, Prod.mk.injEq] at H
    obtain ⟨rfl, rfl, rfl⟩ := H
    go_wp2
    go_ret3
    exact ⟨by first | rfl | (simp; done) | (simp [*]; done), by repeat (first | exact Drawn0.refl _ | apply Drawn0.step)⟩
 
   rw [if_pos c4] at H
   have c4b0 : decide (x14_1 < 8) = true := decide_eq_true c4
   clear c4
   obtain ⟨ji5, hji5⟩ : ∃ j_ : Int, (wrap64 (a1 + x14_1)) = j_ := ⟨_, rfl⟩
   replace H : (if 0 ≤ (ji5) then (if (ji5) < (a0.size : Int) then (col_integer.l0 k1 a0 a1 (Go.bits .or .u64 (IntKind.u64.wrap (x7_1 * 256)) (IntKind.u64.wrap (bt a0 (ji5)))) (wrap64 (x14_1 + 1))) else (none)) else (none)) = some (r1, r2, r3) := by first | (rw [hji5] at H; exact H) | (simp only [hji5] at H ⊢; exact H)
   have hji5w : (IntKind.i64.wrap (a1 + x14_1)) = ji5 := (i64_w _).trans hji5
   by_cases c6 : 0 ≤ (ji5)
   rotate_left
   ·rw [if_neg c6] at H
    exact absurd H (by simp)
   rw [if_pos c6] at H
   have c6b0 : decide (0 ≤ (ji5)) = true := decide_eq_true c6
   clear c6
   by_cases c7 : (ji5) < (a0.size : Int)
   rotate_left
   ·rw [if_neg c7] at H
    exact absurd H (by simp)
   rw [if_pos c7] at H
   have c7b0 : decide ((ji5) < (a0.size : Int)) = true := decide_eq_true c7
   clear c7
   have H' := Aside0.mk H
   clear H
   have p8 : 0 ≤ ((ji5) : Int) := of_decide_eq_true aM
   have q8 : (ji5) < (a0.size : Int) := of_decide_eq_true aM
   have hx8 := bt_at a0 (ji5)
   replace p8 := eq_true p8
   replace q8 := eq_true q8
   go_wp2
   go_roundg k1
   case measure => have := HK1.out; omega
   case rel => exact ⟨(Go.bits .or .u64 (IntKind.u64.wrap (x7_1 * 256)) (IntKind.u64.wrap (bt a0 (ji5)))), (wrap64 (x14_1 + 1)), (by first | rfl | (simp; done) | (simp only [← hji5] <;> (first | rfl | simp)) | (simp [*]; done)), (by first | rfl | (simp; done) | (simp [*]; done)), H', ⟨by have := HK1.out; omega⟩, by repeat (first | exact Drawn0.refl _ | apply Drawn0.step)⟩
/-! ### word_more: function 78 -/
def word_more.f (a0 : Int) : Option (Int) := if a0 > 249 then (some (wrap64 ((wrap64 (a0)) - 247))) else (if a0 = 249 then (some ((0 + 1) + 1)) else (if a0 ≥ 241 then (some (0 + 1)) else (some 0)))
set_option maxHeartbeats 8000000 in
set_option maxRecDepth 100000 in
theorem word_more.calls (a0 : Int) (r : Int) (w : World) (h : word_more.f a0 = some r) :
  Calls Tryd.prog 78 #[.int .u8 a0] w fun e w' => e = .returned (.int .i64 r) ∧ Drawn0 w w' := by
 have H : (if a0 > 249 then (some (wrap64 ((wrap64 (a0)) - 247))) else (if a0 = 249 then (some ((0 + 1) + 1)) else (if a0 ≥ 241 then (some (0 + 1)) else (some 0)))) = some r := h
 clear h
 by_cases c2 : a0 > 249
 ·rw [if_pos c2] at H
  have c2b0 : decide (249 < a0) = true := decide_eq_true c2
  clear c2
  obtain rfl := Option.some.inj H
  go_enter Tryd.func78, Tryd.ntmps78
  go_wp2
  go_ret
  exact ⟨by first | rfl | (simp; done) | (simp [*]; done), by repeat (first | exact Drawn0.refl _ | apply Drawn0.step)⟩
 rw [if_neg c2] at H
 have c2b0 : decide (249 < a0) = false := decide_eq_false c2
 clear c2
 by_cases c3 : a0 = 249
 ·rw [if_pos c3] at H
  have c3b0 : (a0 == 249) = true := beq_iff_eq.mpr c3
  have c3b1 : (a0 != 249) = false := bne_eq_false_iff_eq.mpr c3
  clear c3
  obtain rfl := Option.some.inj H
  go_enter Tryd.func78, Tryd.ntmps78
  go_wp2
  go_ret
  exact ⟨by first | rfl | (simp; done) | (simp [*]; done), by repeat (first | exact Drawn0.refl _ | apply Drawn0.step)⟩
 rw [if_neg c3] at H
 have c3b0 : (a0 == 249) = false := beq_eq_false_iff_ne.mpr c3
 have c3b1 : (a0 != 249) = true := bne_iff_ne.mpr c3
 by_cases c4 : a0 ≥ 241
 ·rw [if_pos c4] at H
  have c4b0 : decide (241 ≤ a0) = true := decide_eq_true c4
  clear c4
  obtain rfl := Option.some.inj H
  go_enter Tryd.func78, Tryd.ntmps78
  go_wp2
  go_ret
  exact ⟨by first | rfl | (simp; done) | (simp [*]; done), by repeat (first | exact Drawn0.refl _ | apply Drawn0.step)⟩
 rw [if_neg c4] at H
 have c4b0 : decide (241 ≤ a0) = false := decide_eq_false c4
 clear c4
 obtain rfl := Option.some.inj H
 go_enter Tryd.func78, Tryd.ntmps78
 go_wp2
 go_ret
 exact ⟨by first | rfl | (simp; done) | (simp [*]; done), by repeat (first | exact Drawn0.refl _ | apply Drawn0.step)⟩

end Go.Proofs.YthaicofleloplaaDoor.P
