/- What is proved here: for functions of the Go text, a Lean function each, and that the call comes to just what it answers. Conditions: as each contract names them. Written by wip/tools/myprint.py, a driver of the print of the kit. -/
import Derived.Test.YtjfgeppfkhaliaaDoorP0
import Derived.Test.YtjfgeppfkhaliaaDoorP3
import Derived.Test.YtjfgeppfkhaliaaDoorWAbbr
namespace Go.Proofs.YtjfgeppfkhaliaaDoor.P
open Go.RowKit Go.Proofs.YtjfgeppfkhaliaaDoorW.PrintWords Go.Proofs.YtjfgeppfkhaliaaDoorW.PrintLast Go.Proofs.YtjfgeppfkhaliaaDoorW.PrintMore Go.Proofs.YtjfgeppfkhaliaaDoorW.Abbr
-- PACKED
attribute [local go_sem] max2_int min2_int max_two min_two max_three min_three max_four min_four Go.Proofs.YtjfgeppfkhaliaaDoorLaws.str_leq Go.Proofs.YtjfgeppfkhaliaaDoorLaws.str_gtr Go.Proofs.YtjfgeppfkhaliaaDoorLaws.str_geq Go.Proofs.YtjfgeppfkhaliaaDoorLaws.max2_str Go.Proofs.YtjfgeppfkhaliaaDoorLaws.min2_str   -- for this text's walks alone
set_option linter.unusedVariables false
set_option linter.unusedSimpArgs false

/-! ### withyref03_Put: function 11 -/
mutual
def withyref03_Put.l0 : Nat → Int → ByteArray → Int → Option (ByteArray × Int)
 | 0, _, _, _ => none
 | k + 1, x4, x5, x6 => if x6 < 8 then ((some (([(Int.tmod x4 256) % 256] : List Int) : List Int)).bind fun y155 => (if (strOfNums y155).size + x5.size ≤ 9223372036854775807 then (withyref03_Put.l0 k (IntKind.u64.wrap (Int.tdiv x4 256)) ((strOfNums y155) ++ x5) (wrap64 (x6 + 1))) else (none))) else (if 1 + x5.size ≤ 9223372036854775807 then (some ((⟨#[48]⟩ : ByteArray) ++ x5, 0)) else (none))
def withyref03_Put.l1 : Nat → List Int → Int → Int → Int → Int → ByteArray → Option (ByteArray × Int)
 | 0, _, _, _, _, _, _ => none
 | k + 1, x7, x8, x151000, x151001, x151002, x151003 => if x8 < (x151003.size : Int) then (if 0 ≤ x8 then (if x7.length < 140737488355328 then ((some (x7 ++ [bt x151003 x8] : List Int)).bind fun y162 => (if (bt x151003 x8) = 0 then (if y162.length < 140737488355328 then (withyref03_Put.l1 k (y162 ++ [255]) (wrap64 (x8 + 1)) x151000 x151001 x151002 x151003) else (none)) else (withyref03_Put.l1 k y162 (wrap64 (x8 + 1)) x151000 x151001 x151002 x151003))) else (none)) else (none)) else (if x7.length < 140737488355328 then ((some (x7 ++ [0] : List Int)).bind fun y168 => (if y168.length < 140737488355328 then (some (strOfNums (y168 ++ [1]), 0)) else (none))) else (none))
end
def withyref03_Put.f (k : Nat) (a0_0 : Int) (a0_1 : Int) (a0_2 : Int) (a0_3 : ByteArray) : Option (ByteArray × Int) := (withyref03_Right.f a0_0 a0_1 a0_2 a0_3).bind fun t151 => (if t151 = true then (if a0_0 = 0 then (some ((⟨#[16]⟩ : ByteArray), 0)) else (if a0_0 = 1 then (some (strOfNums (([(IntKind.u64.wrap (32 + a0_2)) % 256] : List Int)), 0)) else (if a0_0 = 2 then (withyref03_Put.l0 k (IntKind.u64.wrap ((IntKind.u64.wrap (a0_1)) + 9223372036854775808)) (⟨#[]⟩ : ByteArray) 0) else (if a0_0 = 3 then ((withyref01_Put.f k a0_2).bind fun t158 => (if 1 + t158.size ≤ 9223372036854775807 then (some ((⟨#[64]⟩ : ByteArray) ++ t158, 0)) else (none))) else (withyref03_Put.l1 k (([80] : List Int)) 0 a0_0 a0_1 a0_2 a0_3))))) else (some ((⟨#[]⟩ : ByteArray), 3)))
theorem withyref03_Put.mono_l : ∀ k, (∀ y0 y1 y2, LeO (withyref03_Put.l0 k y0 y1 y2) (withyref03_Put.l0 (k + 1) y0 y1 y2)) ∧ (∀ y0 y1 y2 y3 y4 y5, LeO (withyref03_Put.l1 k y0 y1 y2 y3 y4 y5) (withyref03_Put.l1 (k + 1) y0 y1 y2 y3 y4 y5))
 | 0 => ⟨fun _ _ _ r h => by simp [withyref03_Put.l0] at h, fun _ _ _ _ _ _ r h => by simp [withyref03_Put.l1] at h⟩
 | k + 1 => by
  obtain ⟨ih0, ih1⟩ := withyref03_Put.mono_l k
  refine ⟨?_, ?_⟩
  ·intro y0 y1 y2
   unfold withyref03_Put.l0
   repeat' first
   | (with_reducible exact ih0 _ _ _)
   | (with_reducible exact ih1 _ _ _ _ _ _)
   | (with_reducible exact withyref01_Put.mono _ _)
   | (with_reducible exact LeO.refl _)
   | (with_reducible exact LeO.none _)
   | (with_reducible refine LeO.ite ?_ ?_)
   | (with_reducible refine LeO.bind ?_ (fun _ => ?_))
   | exact ih0 _ _ _
   | exact ih1 _ _ _ _ _ _
   | exact withyref01_Put.mono _ _
   | exact LeO.none _
   | refine LeO.ite ?_ ?_
   | refine LeO.bind ?_ (fun _ => ?_)
  ·intro y0 y1 y2 y3 y4 y5
   unfold withyref03_Put.l1
   repeat' first
   | (with_reducible exact ih0 _ _ _)
   | (with_reducible exact ih1 _ _ _ _ _ _)
   | (with_reducible exact withyref01_Put.mono _ _)
   | (with_reducible exact LeO.refl _)
   | (with_reducible exact LeO.none _)
   | (with_reducible refine LeO.ite ?_ ?_)
   | (with_reducible refine LeO.bind ?_ (fun _ => ?_))
   | exact ih0 _ _ _
   | exact ih1 _ _ _ _ _ _
   | exact withyref01_Put.mono _ _
   | exact LeO.none _
   | refine LeO.ite ?_ ?_
   | refine LeO.bind ?_ (fun _ => ?_)
theorem withyref03_Put.mono : ∀ a0 a1 a2 a3 k, LeO (withyref03_Put.f k a0 a1 a2 a3) (withyref03_Put.f (k + 1) a0 a1 a2 a3) := by
 intro a0 a1 a2 a3 k
 obtain ⟨ih0, ih1⟩ := withyref03_Put.mono_l k
 unfold withyref03_Put.f
 repeat' first
   | (with_reducible exact ih0 _ _ _)
   | (with_reducible exact ih1 _ _ _ _ _ _)
   | (with_reducible exact withyref01_Put.mono _ _)
   | (with_reducible exact LeO.refl _)
   | (with_reducible exact LeO.none _)
   | (with_reducible refine LeO.ite ?_ ?_)
   | (with_reducible refine LeO.bind ?_ (fun _ => ?_))
   | exact ih0 _ _ _
   | exact ih1 _ _ _ _ _ _
   | exact withyref01_Put.mono _ _
   | exact LeO.none _
   | refine LeO.ite ?_ ?_
   | refine LeO.bind ?_ (fun _ => ?_)
set_option maxHeartbeats 8000000 in
set_option maxRecDepth 100000 in
theorem withyref03_Put.calls (k : Nat) (a0_0 : Int) (a0_1 : Int) (a0_2 : Int) (a0_3 : ByteArray) (r1 : ByteArray) (r2 : Int) (w : World) (h : withyref03_Put.f k a0_0 a0_1 a0_2 a0_3 = some (r1, r2)) :
  Calls Tryd.prog 11 #[.agg #[.int .i64 a0_0, .int .i64 a0_1, .int .u64 a0_2, .string a0_3]] w fun e w' => e = .returned (.tuple #[.string r1, .int .i64 r2]) ∧ Below w.heap.size w w' := by
 have hu32 := Tryd.underlying32
 have HB := as_ (Below.refl w.heap.size w)
 have H : ((withyref03_Right.f a0_0 a0_1 a0_2 a0_3).bind fun t151 => (if t151 = true then (if a0_0 = 0 then (some ((⟨#[16]⟩ : ByteArray), 0)) else (if a0_0 = 1 then (some (strOfNums (([(IntKind.u64.wrap (32 + a0_2)) % 256] : List Int)), 0)) else (if a0_0 = 2 then (withyref03_Put.l0 k (IntKind.u64.wrap ((IntKind.u64.wrap (a0_1)) + 9223372036854775808)) (⟨#[]⟩ : ByteArray) 0) else (if a0_0 = 3 then ((withyref01_Put.f k a0_2).bind fun t158 => (if 1 + t158.size ≤ 9223372036854775807 then (some ((⟨#[64]⟩ : ByteArray) ++ t158, 0)) else (none))) else (withyref03_Put.l1 k (([80] : List Int)) 0 a0_0 a0_1 a0_2 a0_3))))) else (some ((⟨#[]⟩ : ByteArray), 3)))) = some (r1, r2) := h
 clear h
 replace H := bM H
 obtain ⟨t151, A20, H⟩ := H
 replace H : (if t151 = true then (if a0_0 = 0 then (some ((⟨#[16]⟩ : ByteArray), 0)) else (if a0_0 = 1 then (some (strOfNums (([(IntKind.u64.wrap (32 + a0_2)) % 256] : List Int)), 0)) else (if a0_0 = 2 then (withyref03_Put.l0 k (IntKind.u64.wrap ((IntKind.u64.wrap (a0_1)) + 9223372036854775808)) (⟨#[]⟩ : ByteArray) 0) else (if a0_0 = 3 then ((withyref01_Put.f k a0_2).bind fun t158 => (if 1 + t158.size ≤ 9223372036854775807 then (some ((⟨#[64]⟩ : ByteArray) ++ t158, 0)) else (none))) else (withyref03_Put.l1 k (([80] : List Int)) 0 a0_0 a0_1 a0_2 a0_3))))) else (some ((⟨#[]⟩ : ByteArray), 3))) = some (r1, r2) := H
 have A2 := Aside0.mk A20
 clear A20
 by_cases c3 : t151 = true
 rotate_left
 ·replace c3 := Bool.eq_false_iff.mpr c3
  subst c3
  have H1 : (some ((⟨#[]⟩ : ByteArray), 3)) = some (r1, r2) := by rw [if_neg (show ¬ (false = true) by decide)] at H; exact H
  clear H
  have H := H1
  clear H1
  simp only [Option.some.injEq, Prod.mk.injEq] at H
  obtain ⟨rfl, rfl⟩ := H
  go_enter Tryd.func11, Tryd.ntmps11
  go_wp2_with (first | ((with_reducible refine gate_dst (N := 1) rfl ?_); refine box_event (by rfl) (N := 1) (by rfl) (cs := #[.int .i64 a0_0, .int .i64 a0_1, .int .u64 a0_2, .string a0_3]) (t := 32) gS ?_; intro gb150 hg w65 hbox hb; have BK150 := as_ (hbox); have GW150 := gw hg bA; have GE150 := gw hg bA; replace HB := as_ (below_step bA hb); clear hb hbox hg; obtain ⟨hcz66_0, hcz66_1, hcz66_2, hcz66_3⟩ := zc4 BK150; obtain ⟨hfz66_0, hfz66_1, hfz66_2, hfz66_3⟩ := zf4 BK150) | ((with_reducible refine gate_callee (f := 16) rfl ?_); refine goesL_ (some 10) rfl rfl Tryd.func16 (by kernel_rfl) rfl #[.agg #[.int .i64 a0_0, .int .i64 a0_1, .int .u64 a0_2, .string a0_3]] rfl aO ?_; (with_reducible refine (withyref03_Right.calls a0_0 a0_1 a0_2 a0_3 false _ A2.out).mono ?_); rintro e w67 ⟨rfl, hb⟩; refine ⟨_, rfl, ?_⟩; replace BK150 := bb BK150 hb; replace HB := as_ (below_step bA hb); (try clear hb); (try clear hb2); (try clear hk); (try clear hi)))
  go_ret2
  exact ⟨eW, by repeat (first | (with_reducible first | exact HB.out | apply below_alloc | apply pw_below_drewN | apply below_drew1 | refine below_set ?_ GE150.out) | exact HB.out)⟩
 
 subst c3
 have H1 : (if a0_0 = 0 then (some ((⟨#[16]⟩ : ByteArray), 0)) else (if a0_0 = 1 then (some (strOfNums (([(IntKind.u64.wrap (32 + a0_2)) % 256] : List Int)), 0)) else (if a0_0 = 2 then (withyref03_Put.l0 k (IntKind.u64.wrap ((IntKind.u64.wrap (a0_1)) + 9223372036854775808)) (⟨#[]⟩ : ByteArray) 0) else (if a0_0 = 3 then ((withyref01_Put.f k a0_2).bind fun t158 => (if 1 + t158.size ≤ 9223372036854775807 then (some ((⟨#[64]⟩ : ByteArray) ++ t158, 0)) else (none))) else (withyref03_Put.l1 k (([80] : List Int)) 0 a0_0 a0_1 a0_2 a0_3))))) = some (r1, r2) := by rw [if_pos rfl] at H; exact H
 clear H
 have H := H1
 clear H1
 by_cases c4 : a0_0 = 0
 ·rw [if_pos c4] at H
  have c4b0 : (a0_0 == 0) = true := beq_iff_eq.mpr c4
  have c4b1 : (a0_0 != 0) = false := bne_eq_false_iff_eq.mpr c4
  clear c4
  simp only [Option.some.injEq, Prod.mk.injEq] at H
  obtain ⟨rfl, rfl⟩ := H
  go_enter Tryd.func11, Tryd.ntmps11
  go_wp2_with (first | ((with_reducible refine gate_dst (N := 1) rfl ?_); refine box_event (by rfl) (N := 1) (by rfl) (cs := #[.int .i64 a0_0, .int .i64 a0_1, .int .u64 a0_2, .string a0_3]) (t := 32) gS ?_; intro gb150 hg w5 hbox hb; have BK150 := as_ (hbox); have GW150 := gw hg bA; have GE150 := gw hg bA; replace HB := as_ (below_step bA hb); clear hb hbox hg; obtain ⟨hcz6_0, hcz6_1, hcz6_2, hcz6_3⟩ := zc4 BK150; obtain ⟨hfz6_0, hfz6_1, hfz6_2, hfz6_3⟩ := zf4 BK150) | ((with_reducible refine gate_callee (f := 16) rfl ?_); refine goesL_ (some 10) rfl rfl Tryd.func16 (by kernel_rfl) rfl #[.agg #[.int .i64 a0_0, .int .i64 a0_1, .int .u64 a0_2, .string a0_3]] rfl aO ?_; (with_reducible refine (withyref03_Right.calls a0_0 a0_1 a0_2 a0_3 true _ A2.out).mono ?_); rintro e w7 ⟨rfl, hb⟩; refine ⟨_, rfl, ?_⟩; replace BK150 := bb BK150 hb; replace HB := as_ (below_step bA hb); (try clear hb); (try clear hb2); (try clear hk); (try clear hi); obtain ⟨hcz8_0, hcz8_1, hcz8_2, hcz8_3⟩ := zc4 BK150; obtain ⟨hfz8_0, hfz8_1, hfz8_2, hfz8_3⟩ := zf4 BK150))
  go_ret2
  exact ⟨eW, by repeat (first | (with_reducible first | exact HB.out | apply below_alloc | apply pw_below_drewN | apply below_drew1 | refine below_set ?_ GE150.out) | exact HB.out)⟩
 rw [if_neg c4] at H
 have c4b0 : (a0_0 == 0) = false := beq_eq_false_iff_ne.mpr c4
 have c4b1 : (a0_0 != 0) = true := bne_iff_ne.mpr c4
 by_cases c9 : a0_0 = 1
 ·rw [if_pos c9] at H
  have c9b0 : (a0_0 == 1) = true := beq_iff_eq.mpr c9
  have c9b1 : (a0_0 != 1) = false := bne_eq_false_iff_eq.mpr c9
  clear c9
  obtain ⟨y152, hy152⟩ : ∃ y_ : List Int, y_ = (([(IntKind.u64.wrap (32 + a0_2)) % 256] : List Int)) := ⟨_, rfl⟩
  replace H : (some (strOfNums y152, 0)) = some (r1, r2) := by first | (rw [hy152]; with_reducible exact H) | (have H2_ := (Option.bind_some _ _).symm.trans H; rw [hy152]; with_reducible exact H2_) | (have H2_ := (Option.bind_some _ _).symm.trans H; with_reducible exact H2_) | with_reducible exact H | (rw [hy152]; exact H) | exact H
  have Ny152 := Aside0.mk hy152
  clear hy152
  simp only [Option.some.injEq, Prod.mk.injEq] at H
  obtain ⟨rfl, rfl⟩ := H
  go_enter Tryd.func11, Tryd.ntmps11
  go_wp2_with (first | ((with_reducible refine gate_dst (N := 1) rfl ?_); refine box_event (by rfl) (N := 1) (by rfl) (cs := #[.int .i64 a0_0, .int .i64 a0_1, .int .u64 a0_2, .string a0_3]) (t := 32) gS ?_; intro gb150 hg w10 hbox hb; have BK150 := as_ (hbox); have GW150 := gw hg bA; have GE150 := gw hg bA; replace HB := as_ (below_step bA hb); clear hb hbox hg; obtain ⟨hcz11_0, hcz11_1, hcz11_2, hcz11_3⟩ := zc4 BK150; obtain ⟨hfz11_0, hfz11_1, hfz11_2, hfz11_3⟩ := zf4 BK150) | ((with_reducible refine gate_callee (f := 16) rfl ?_); refine goesL_ (some 10) rfl rfl Tryd.func16 (by kernel_rfl) rfl #[.agg #[.int .i64 a0_0, .int .i64 a0_1, .int .u64 a0_2, .string a0_3]] rfl aO ?_; (with_reducible refine (withyref03_Right.calls a0_0 a0_1 a0_2 a0_3 true _ A2.out).mono ?_); rintro e w12 ⟨rfl, hb⟩; refine ⟨_, rfl, ?_⟩; replace BK150 := bb BK150 hb; replace HB := as_ (below_step bA hb); (try clear hb); (try clear hb2); (try clear hk); (try clear hi); obtain ⟨hcz13_0, hcz13_1, hcz13_2, hcz13_3⟩ := zc4 BK150; obtain ⟨hfz13_0, hfz13_1, hfz13_2, hfz13_3⟩ := zf4 BK150) | ((with_reducible refine gate_dst (N := 22) rfl ?_); refine Kd.R_lit (Kd.int .u8) _ 5 ?hg (N := 22) ?hd (xs := ([(IntKind.u64.wrap (32 + a0_2)) % 256] : List Int)) (inner := [.int .u8 ((IntKind.u64.wrap (32 + a0_2)) % 256)]) (ok := fun _ => True) (okp := fun _ => True) ?hr ?hp (fun _ hk => hk) trivial (Below.refl _ _) (Nat.le_refl _) (by simp) ?_; (case hd => rfl); (case hg => rfl); (case hr => first | (go_simp; done) | (go_simp; rfl)); (case hp => exact (Reps.one (show Kd.M (Kd.int .u8) _ _ _ ((IntKind.u64.wrap (32 + a0_2)) % 256) [.int .u8 ((IntKind.u64.wrap (32 + a0_2)) % 256)] from rfl) (Reps.none _ _))); intro v153 w14 ho15 hb hg_ hnew_; clear hg_ hnew_; (first | rw [← Ny152.out] at ho15 | (simp only [Int.reduceToNat] at ho15; rw [← Ny152.out] at ho15)); have HO154 := as_ (Kd.R_lower ho15 (below_size bA)); replace BK150 := bb BK150 hb; replace HB := as_ (below_step bA hb); clear hb ho15; have hcv16 := own_string (P := Tryd.prog) Tryd.underlying49 Tryd.underlying5 Tryd.underlying9 (Kd.own_of_R HO154.out)))
  go_ret2
  exact ⟨eW, by repeat (first | (with_reducible first | exact HB.out | apply below_alloc | apply pw_below_drewN | apply below_drew1 | refine below_set ?_ GE150.out) | exact HB.out)⟩
 rw [if_neg c9] at H
 have c9b0 : (a0_0 == 1) = false := beq_eq_false_iff_ne.mpr c9
 have c9b1 : (a0_0 != 1) = true := bne_iff_ne.mpr c9
 by_cases c17 : a0_0 = 2
 ·rw [if_pos c17] at H
  have c17b0 : (a0_0 == 2) = true := beq_iff_eq.mpr c17
  have c17b1 : (a0_0 != 2) = false := bne_eq_false_iff_eq.mpr c17
  clear c17
  have H' := Aside0.mk H
  clear H
  go_enter Tryd.func11, Tryd.ntmps11
  go_wp2_with (first | ((with_reducible refine gate_dst (N := 1) rfl ?_); refine box_event (by rfl) (N := 1) (by rfl) (cs := #[.int .i64 a0_0, .int .i64 a0_1, .int .u64 a0_2, .string a0_3]) (t := 32) gS ?_; intro gb150 hg w18 hbox hb; have BK150 := as_ (hbox); have GW150 := gw hg bA; have GE150 := gw hg bA; replace HB := as_ (below_step bA hb); clear hb hbox hg; obtain ⟨hcz19_0, hcz19_1, hcz19_2, hcz19_3⟩ := zc4 BK150; obtain ⟨hfz19_0, hfz19_1, hfz19_2, hfz19_3⟩ := zf4 BK150) | ((with_reducible refine gate_callee (f := 16) rfl ?_); refine goesL_ (some 10) rfl rfl Tryd.func16 (by kernel_rfl) rfl #[.agg #[.int .i64 a0_0, .int .i64 a0_1, .int .u64 a0_2, .string a0_3]] rfl aO ?_; (with_reducible refine (withyref03_Right.calls a0_0 a0_1 a0_2 a0_3 true _ A2.out).mono ?_); rintro e w20 ⟨rfl, hb⟩; refine ⟨_, rfl, ?_⟩; replace BK150 := bb BK150 hb; replace HB := as_ (below_step bA hb); (try clear hb); (try clear hb2); (try clear hk); (try clear hi); obtain ⟨hcz21_0, hcz21_1, hcz21_2, hcz21_3⟩ := zc4 BK150; obtain ⟨hfz21_0, hfz21_1, hfz21_2, hfz21_3⟩ := zf4 BK150))
  go_loopg [4, 5, 6] k (fun kq v4 v5 v6 w' => ∃ (x4_1 : Int) (x5_1 : ByteArray) (x6_1 : Int), v4 = .int .u64 x4_1 ∧ v5 = .string x5_1 ∧ v6 = .int .i64 x6_1 ∧ Aside0 (withyref03_Put.l0 kq x4_1 x5_1 x6_1 = some (r1, r2)) ∧ Aside0 (kq ≤ k) ∧ Aside0 (w'.heap[gb150]? = some (.cells #[.int .i64 a0_0, .int .i64 a0_1, .int .u64 a0_2, .string a0_3] 32 (0, 0))) ∧ Aside0 (Below w.heap.size w w'))
  case atStart => exact ⟨(IntKind.u64.wrap ((IntKind.u64.wrap (a0_1)) + 9223372036854775808)), ((⟨#[]⟩ : ByteArray)), (0), (by first | rfl | (simp; done) | (simp [*]; done)), (by first | rfl | (simp; done) | (simp [*]; done)), (by first | rfl | (simp; done) | (simp [*]; done)), H', ⟨Nat.le_refl _⟩, ⟨by refine bx ?_; exact BK150.out⟩, ⟨by repeat (first | (with_reducible first | exact HB.out | apply below_alloc | apply pw_below_drewN | apply below_drew1 | refine below_set ?_ GE150.out) | exact HB.out)⟩⟩
  case round =>
   clear H'
   try clear c1
   try clear hcv1
   try clear p2
   try clear c3
   try clear c4
   try clear c4b0
   try clear c4b1
   try clear c9
   try clear c9b0
   try clear c9b1
   try clear c11
   try clear c16
   try clear hcv16
   try clear c17
   try clear c17b0
   try clear c17b1
   try clear hcz11_0
   try clear hcz11_1
   try clear hcz11_2
   try clear hcz11_3
   try clear hcz13_0
   try clear hcz13_1
   try clear hcz13_2
   try clear hcz13_3
   try clear hcz19_0
   try clear hcz19_1
   try clear hcz19_2
   try clear hcz19_3
   try clear hcz21_0
   try clear hcz21_1
   try clear hcz21_2
   try clear hcz21_3
   try clear hcz6_0
   try clear hcz6_1
   try clear hcz6_2
   try clear hcz6_3
   try clear hcz8_0
   try clear hcz8_1
   try clear hcz8_2
   try clear hcz8_3
   try clear hfz11_0
   try clear hfz11_1
   try clear hfz11_2
   try clear hfz11_3
   try clear hfz13_0
   try clear hfz13_1
   try clear hfz13_2
   try clear hfz13_3
   try clear hfz19_0
   try clear hfz19_1
   try clear hfz19_2
   try clear hfz19_3
   try clear hfz21_0
   try clear hfz21_1
   try clear hfz21_2
   try clear hfz21_3
   try clear hfz6_0
   try clear hfz6_1
   try clear hfz6_2
   try clear hfz6_3
   try clear hfz8_0
   try clear hfz8_1
   try clear hfz8_2
   try clear hfz8_3
   obtain ⟨x4_1, x5_1, x6_1, rfl, rfl, rfl, HA, HK1, BK150, HB⟩ := hrel
   cases gk with
   | zero => exact absurd HA.out (by simp [withyref03_Put.l0])
   | succ k1 =>
    have H := HA.out
    clear HA
    simp only [withyref03_Put.l0] at H
    by_cases c22 : x6_1 < 8
    rotate_left
    ·rw [if_neg c22] at H
     have c22b0 : decide (x6_1 < 8) = false := decide_eq_false c22
     clear c22
     by_cases c28 : 1 + x5_1.size ≤ 9223372036854775807
     rotate_left
     ·rw [if_neg c28] at H
      exact absurd H (by simp)
     rw [if_pos c28] at H
     have c28b0 := eq_true c28
     have c28b1 : decide (1 + x5_1.size ≤ 9223372036854775807) = true := decide_eq_true c28
     try have c28b2 : (9223372036854775807 < 1 + x5_1.size) = False := eq_false (Nat.not_lt.2 c28)
     obtain ⟨js29, hjs29⟩ : ∃ j_ : ByteArray, ((⟨#[48]⟩ : ByteArray) ++ x5_1) = j_ := ⟨_, rfl⟩
     replace H : (some (js29, 0)) = some (r1, r2) := by first | (rw [hjs29] at H; exact H) | (simp only [hjs29] at H ⊢; exact H)
     simp only [Option.some.injEq, Prod.mk.injEq] at H
     obtain ⟨rfl, rfl⟩ := H
     go_wp2
     go_ret2
     exact ⟨by first | rfl | (simp [errW_none, errW_some] <;> rfl) | (simp only [← hjs29]; first | rfl | (simp [errW_none, errW_some] <;> rfl)) | (simp [*, errW_none, errW_some] <;> rfl), by repeat (first | (with_reducible first | exact HB.out | apply below_alloc | apply pw_below_drewN | apply below_drew1 | refine below_set ?_ GE150.out) | exact HB.out)⟩
    rw [if_pos c22] at H
    have c22b0 : decide (x6_1 < 8) = true := decide_eq_true c22
    clear c22
    obtain ⟨y155, hy155⟩ : ∃ y_ : List Int, y_ = (([(Int.tmod x4_1 256) % 256] : List Int)) := ⟨_, rfl⟩
    replace H : (if (strOfNums y155).size + x5_1.size ≤ 9223372036854775807 then (withyref03_Put.l0 k1 (IntKind.u64.wrap (Int.tdiv x4_1 256)) ((strOfNums y155) ++ x5_1) (wrap64 (x6_1 + 1))) else (none)) = some (r1, r2) := by first | (rw [hy155]; with_reducible exact H) | (have H2_ := (Option.bind_some _ _).symm.trans H; rw [hy155]; with_reducible exact H2_) | (have H2_ := (Option.bind_some _ _).symm.trans H; with_reducible exact H2_) | with_reducible exact H | (rw [hy155]; exact H) | exact H
    have Ny155 := Aside0.mk hy155
    clear hy155
    by_cases c23 : (strOfNums y155).size + x5_1.size ≤ 9223372036854775807
    rotate_left
    ·rw [if_neg c23] at H
     exact absurd H (by simp)
    rw [if_pos c23] at H
    have c23b0 := eq_true c23
    have c23b1 : decide ((strOfNums y155).size + x5_1.size ≤ 9223372036854775807) = true := decide_eq_true c23
    try have c23b2 : (9223372036854775807 < (strOfNums y155).size + x5_1.size) = False := eq_false (Nat.not_lt.2 c23)
    obtain ⟨js24, hjs24⟩ : ∃ j_ : ByteArray, ((strOfNums y155) ++ x5_1) = j_ := ⟨_, rfl⟩
    replace H : (withyref03_Put.l0 k1 (IntKind.u64.wrap (Int.tdiv x4_1 256)) js24 (wrap64 (x6_1 + 1))) = some (r1, r2) := by first | (rw [hjs24] at H; exact H) | (simp only [hjs24] at H ⊢; exact H)
    have H' := Aside0.mk H
    clear H
    go_wp2_with (first | ((with_reducible refine gate_dst (N := 37) rfl ?_); refine Kd.R_lit (Kd.int .u8) _ 5 ?hg (N := 37) ?hd (xs := ([(Int.tmod x4_1 256) % 256] : List Int)) (inner := [.int .u8 ((Int.tmod x4_1 256) % 256)]) (ok := fun _ => True) (okp := fun _ => True) ?hr ?hp (fun _ hk => hk) trivial (Below.refl _ _) (Nat.le_refl _) (by simp) ?_; (case hd => rfl); (case hg => rfl); (case hr => first | (go_simp; done) | (go_simp; rfl)); (case hp => exact (Reps.one (show Kd.M (Kd.int .u8) _ _ _ ((Int.tmod x4_1 256) % 256) [.int .u8 ((Int.tmod x4_1 256) % 256)] from rfl) (Reps.none _ _))); intro v156 w25 ho26 hb hg_ hnew_; clear hg_ hnew_; (first | rw [← Ny155.out] at ho26 | (simp only [Int.reduceToNat] at ho26; rw [← Ny155.out] at ho26)); have HO157 := as_ (Kd.R_lower ho26 (below_size bA)); replace BK150 := bb BK150 hb; replace HB := as_ (below_step bA hb); clear hb ho26; have hcv27 := own_string (P := Tryd.prog) Tryd.underlying49 Tryd.underlying5 Tryd.underlying9 (Kd.own_of_R HO157.out)))
    go_roundg k1
    case measure => have := HK1.out; omega
    case rel => exact ⟨(IntKind.u64.wrap (Int.tdiv x4_1 256)), (js24), (wrap64 (x6_1 + 1)), (by first | rfl | (simp; done) | (simp [*]; done)), (by first | rfl | (simp; done) | (simp only [← hjs24] <;> (first | rfl | simp)) | (simp [*]; done)), (by first | rfl | (simp; done) | (simp [*]; done)), H', ⟨by have := HK1.out; omega⟩, ⟨by refine bx ?_; exact BK150.out⟩, ⟨by repeat (first | (with_reducible first | exact HB.out | apply below_alloc | apply pw_below_drewN | apply below_drew1 | refine below_set ?_ GE150.out) | exact HB.out)⟩⟩
 rw [if_neg c17] at H
 have c17b0 : (a0_0 == 2) = false := beq_eq_false_iff_ne.mpr c17
 have c17b1 : (a0_0 != 2) = true := bne_iff_ne.mpr c17
 by_cases c30 : a0_0 = 3
 ·rw [if_pos c30] at H
  have c30b0 : (a0_0 == 3) = true := beq_iff_eq.mpr c30
  have c30b1 : (a0_0 != 3) = false := bne_eq_false_iff_eq.mpr c30
  clear c30
  replace H := bM H
  obtain ⟨t158, A310, H⟩ := H
  replace H : (if 1 + t158.size ≤ 9223372036854775807 then (some ((⟨#[64]⟩ : ByteArray) ++ t158, 0)) else (none)) = some (r1, r2) := H
  have A31 := Aside0.mk A310
  clear A310
  by_cases c32 : 1 + t158.size ≤ 9223372036854775807
  rotate_left
  ·rw [if_neg c32] at H
   exact absurd H (by simp)
  rw [if_pos c32] at H
  have c32b0 := eq_true c32
  have c32b1 : decide (1 + t158.size ≤ 9223372036854775807) = true := decide_eq_true c32
  try have c32b2 : (9223372036854775807 < 1 + t158.size) = False := eq_false (Nat.not_lt.2 c32)
  obtain ⟨js33, hjs33⟩ : ∃ j_ : ByteArray, ((⟨#[64]⟩ : ByteArray) ++ t158) = j_ := ⟨_, rfl⟩
  replace H : (some (js33, 0)) = some (r1, r2) := by first | (rw [hjs33] at H; exact H) | (simp only [hjs33] at H ⊢; exact H)
  (try rw [hjs33] at A2)
  (try rw [hjs33] at A31)
  simp only [Option.some.injEq, Prod.mk.injEq] at H
  obtain ⟨rfl, rfl⟩ := H
  go_enter Tryd.func11, Tryd.ntmps11
  go_wp2_with (first | ((with_reducible refine gate_dst (N := 1) rfl ?_); refine box_event (by rfl) (N := 1) (by rfl) (cs := #[.int .i64 a0_0, .int .i64 a0_1, .int .u64 a0_2, .string a0_3]) (t := 32) gS ?_; intro gb150 hg w34 hbox hb; have BK150 := as_ (hbox); have GW150 := gw hg bA; have GE150 := gw hg bA; replace HB := as_ (below_step bA hb); clear hb hbox hg; obtain ⟨hcz35_0, hcz35_1, hcz35_2, hcz35_3⟩ := zc4 BK150; obtain ⟨hfz35_0, hfz35_1, hfz35_2, hfz35_3⟩ := zf4 BK150) | ((with_reducible refine gate_callee (f := 16) rfl ?_); refine goesL_ (some 10) rfl rfl Tryd.func16 (by kernel_rfl) rfl #[.agg #[.int .i64 a0_0, .int .i64 a0_1, .int .u64 a0_2, .string a0_3]] rfl aO ?_; (with_reducible refine (withyref03_Right.calls a0_0 a0_1 a0_2 a0_3 true _ A2.out).mono ?_); rintro e w36 ⟨rfl, hb⟩; refine ⟨_, rfl, ?_⟩; replace BK150 := bb BK150 hb; replace HB := as_ (below_step bA hb); (try clear hb); (try clear hb2); (try clear hk); (try clear hi); obtain ⟨hcz37_0, hcz37_1, hcz37_2, hcz37_3⟩ := zc4 BK150; obtain ⟨hfz37_0, hfz37_1, hfz37_2, hfz37_3⟩ := zf4 BK150) | ((with_reducible refine gate_callee (f := 29) rfl ?_); refine goesL_ (some 49) rfl rfl Tryd.func29 (by kernel_rfl) rfl #[.int .u64 a0_2] rfl aO ?_; (with_reducible refine (withyref01_Put.calls k a0_2 t158 _ A31.out).mono ?_); rintro e w38 ⟨rfl, hb⟩; refine ⟨_, rfl, ?_⟩; replace BK150 := bb BK150 hb; replace HB := as_ (below_step bA hb); (try clear hb); (try clear hb2); (try clear hk); (try clear hi)))
  go_ret2
  exact ⟨by first | rfl | (simp [errW_none, errW_some] <;> rfl) | (simp only [← hjs33]; first | rfl | (simp [errW_none, errW_some] <;> rfl)) | (simp [*, errW_none, errW_some] <;> rfl), by repeat (first | (with_reducible first | exact HB.out | apply below_alloc | apply pw_below_drewN | apply below_drew1 | refine below_set ?_ GE150.out) | exact HB.out)⟩
 rw [if_neg c30] at H
 have c30b0 : (a0_0 == 3) = false := beq_eq_false_iff_ne.mpr c30
 have c30b1 : (a0_0 != 3) = true := bne_iff_ne.mpr c30
 obtain ⟨y159, hy159⟩ : ∃ y_ : List Int, y_ = (([80] : List Int)) := ⟨_, rfl⟩
 replace H : (withyref03_Put.l1 k y159 0 a0_0 a0_1 a0_2 a0_3) = some (r1, r2) := by first | (rw [hy159]; with_reducible exact H) | (have H2_ := (Option.bind_some _ _).symm.trans H; rw [hy159]; with_reducible exact H2_) | (have H2_ := (Option.bind_some _ _).symm.trans H; with_reducible exact H2_) | with_reducible exact H | (rw [hy159]; exact H) | exact H
 have Ny159 := Aside0.mk hy159
 clear hy159
 have H' := Aside0.mk H
 clear H
 go_enter Tryd.func11, Tryd.ntmps11
 go_wp2_with (first | ((with_reducible refine gate_dst (N := 1) rfl ?_); refine box_event (by rfl) (N := 1) (by rfl) (cs := #[.int .i64 a0_0, .int .i64 a0_1, .int .u64 a0_2, .string a0_3]) (t := 32) gS ?_; intro gb150 hg w39 hbox hb; have BK150 := as_ (hbox); have GW150 := gw hg bA; have GE150 := gw hg bA; replace HB := as_ (below_step bA hb); clear hb hbox hg; obtain ⟨hcz40_0, hcz40_1, hcz40_2, hcz40_3⟩ := zc4 BK150; obtain ⟨hfz40_0, hfz40_1, hfz40_2, hfz40_3⟩ := zf4 BK150) | ((with_reducible refine gate_callee (f := 16) rfl ?_); refine goesL_ (some 10) rfl rfl Tryd.func16 (by kernel_rfl) rfl #[.agg #[.int .i64 a0_0, .int .i64 a0_1, .int .u64 a0_2, .string a0_3]] rfl aO ?_; (with_reducible refine (withyref03_Right.calls a0_0 a0_1 a0_2 a0_3 true _ A2.out).mono ?_); rintro e w41 ⟨rfl, hb⟩; refine ⟨_, rfl, ?_⟩; replace BK150 := bb BK150 hb; replace HB := as_ (below_step bA hb); (try clear hb); (try clear hb2); (try clear hk); (try clear hi); obtain ⟨hcz42_0, hcz42_1, hcz42_2, hcz42_3⟩ := zc4 BK150; obtain ⟨hfz42_0, hfz42_1, hfz42_2, hfz42_3⟩ := zf4 BK150) | ((with_reducible refine gate_dst (N := 51) rfl ?_); refine Kd.R_lit (Kd.int .u8) _ 5 ?hg (N := 51) ?hd (xs := ([80] : List Int)) (inner := [.int .u8 80]) (ok := fun _ => True) (okp := fun _ => True) ?hr ?hp (fun _ hk => hk) trivial (Below.refl _ _) (Nat.le_refl _) (by simp) ?_; (case hd => rfl); (case hg => rfl); (case hr => first | (go_simp; done) | (go_simp; rfl)); (case hp => exact (Reps.one (show Kd.M (Kd.int .u8) _ _ _ 80 [.int .u8 80] from rfl) (Reps.none _ _))); intro v160 w43 ho44 hb hg_ hnew_; clear hg_ hnew_; (first | rw [← Ny159.out] at ho44 | (simp only [Int.reduceToNat] at ho44; rw [← Ny159.out] at ho44)); have HO161 := as_ (Kd.R_lower ho44 (below_size bA)); replace BK150 := bb BK150 hb; replace HB := as_ (below_step bA hb); clear hb ho44))
 go_loopg [7, 8] k (fun kq v7 v8 w' => ∃ (x7_1 : List Int) (x8_1 : Int), v8 = .int .i64 x8_1 ∧ Aside0 (withyref03_Put.l1 kq x7_1 x8_1 a0_0 a0_1 a0_2 a0_3 = some (r1, r2)) ∧ Aside0 (kq ≤ k) ∧ Aside0 (Kd.R (Kd.int .u8) 5 w' w.heap.size (fun _ => True) v7 x7_1) ∧ Aside0 (w'.heap[gb150]? = some (.cells #[.int .i64 a0_0, .int .i64 a0_1, .int .u64 a0_2, .string a0_3] 32 (0, 0))) ∧ Aside0 (Below w.heap.size w w'))
 case atStart => exact ⟨(y159), (0), (by first | rfl | (simp; done) | (simp [*]; done)), H', ⟨Nat.le_refl _⟩, ⟨by (with_reducible repeat (first | apply Kd.R_alloc | apply Kd.R_drewN | apply Kd.R_drew)); exact HO161.out⟩, ⟨by refine bx ?_; exact BK150.out⟩, ⟨by repeat (first | (with_reducible first | exact HB.out | apply below_alloc | apply pw_below_drewN | apply below_drew1 | refine below_set ?_ GE150.out) | exact HB.out)⟩⟩
 case round =>
  clear H'
  try clear c1
  try clear hcv1
  try clear c2
  try clear p2
  try clear hcv2
  try clear c3
  try clear c4
  try clear c4b0
  try clear c4b1
  try clear p6
  try clear c9
  try clear c9b0
  try clear c9b1
  try clear c11
  try clear c16
  try clear hcv16
  try clear c17
  try clear c17b0
  try clear c17b1
  try clear c22
  try clear c22b0
  try clear c23
  try clear c23b0
  try clear c23b1
  try clear c23b2
  try clear hcv27
  try clear c28
  try clear c28b0
  try clear c28b1
  try clear c28b2
  try clear c29
  try clear c30
  try clear c30b0
  try clear c30b1
  try clear c32
  try clear c32b0
  try clear c32b1
  try clear c32b2
  try clear hcz11_0
  try clear hcz11_1
  try clear hcz11_2
  try clear hcz11_3
  try clear hcz13_0
  try clear hcz13_1
  try clear hcz13_2
  try clear hcz13_3
  try clear hcz19_0
  try clear hcz19_1
  try clear hcz19_2
  try clear hcz19_3
  try clear hcz21_0
  try clear hcz21_1
  try clear hcz21_2
  try clear hcz21_3
  try clear hcz35_0
  try clear hcz35_1
  try clear hcz35_2
  try clear hcz35_3
  try clear hcz37_0
  try clear hcz37_1
  try clear hcz37_2
  try clear hcz37_3
  try clear hcz40_0
  try clear hcz40_1
  try clear hcz40_2
  try clear hcz40_3
  try clear hcz42_0
  try clear hcz42_1
  try clear hcz42_2
  try clear hcz42_3
  try clear hcz6_0
  try clear hcz6_1
  try clear hcz6_2
  try clear hcz6_3
  try clear hcz8_0
  try clear hcz8_1
  try clear hcz8_2
  try clear hcz8_3
  try clear hfz11_0
  try clear hfz11_1
  try clear hfz11_2
  try clear hfz11_3
  try clear hfz13_0
  try clear hfz13_1
  try clear hfz13_2
  try clear hfz13_3
  try clear hfz19_0
  try clear hfz19_1
  try clear hfz19_2
  try clear hfz19_3
  try clear hfz21_0
  try clear hfz21_1
  try clear hfz21_2
  try clear hfz21_3
  try clear hfz35_0
  try clear hfz35_1
  try clear hfz35_2
  try clear hfz35_3
  try clear hfz37_0
  try clear hfz37_1
  try clear hfz37_2
  try clear hfz37_3
  try clear hfz40_0
  try clear hfz40_1
  try clear hfz40_2
  try clear hfz40_3
  try clear hfz42_0
  try clear hfz42_1
  try clear hfz42_2
  try clear hfz42_3
  try clear hfz6_0
  try clear hfz6_1
  try clear hfz6_2
  try clear hfz6_3
  try clear hfz8_0
  try clear hfz8_1
  try clear hfz8_2
  try clear hfz8_3
  try clear p2
  obtain ⟨x7_1, x8_1, rfl, HA, HK1, HO_7, BK150, HB⟩ := hrel
  cases gk with
  | zero => exact absurd HA.out (by simp [withyref03_Put.l1])
  | succ k1 =>
   have H := HA.out
   clear HA
   simp only [withyref03_Put.l1] at H
   by_cases c45 : x8_1 < (a0_3.size : Int)
   rotate_left
   ·rw [if_neg c45] at H
    have c45b0 : decide (x8_1 < (a0_3.size : Int)) = false := decide_eq_false c45
    clear c45
    by_cases c59 : x7_1.length < 140737488355328
    rotate_left
    ·rw [if_neg c59] at H
     exact absurd H (by simp)
    rw [if_pos c59] at H
    have LMc59 := Aside0.mk c59
    clear c59
    obtain ⟨y168, hy168⟩ : ∃ y_ : List Int, y_ = (x7_1 ++ [0]) := ⟨_, rfl⟩
    replace H : (if y168.length < 140737488355328 then (some (strOfNums (y168 ++ [1]), 0)) else (none)) = some (r1, r2) := by first | (rw [hy168]; with_reducible exact H) | (have H2_ := (Option.bind_some _ _).symm.trans H; rw [hy168]; with_reducible exact H2_) | (have H2_ := (Option.bind_some _ _).symm.trans H; with_reducible exact H2_) | with_reducible exact H | (rw [hy168]; exact H) | exact H
    have Ny168 := Aside0.mk hy168
    clear hy168
    by_cases c60 : y168.length < 140737488355328
    rotate_left
    ·rw [if_neg c60] at H
     exact absurd H (by simp)
    rw [if_pos c60] at H
    have LMc60 := Aside0.mk c60
    clear c60
    obtain ⟨y171, hy171⟩ : ∃ y_ : List Int, y_ = (y168 ++ [1]) := ⟨_, rfl⟩
    replace H : (some (strOfNums y171, 0)) = some (r1, r2) := by first | (rw [hy171]; with_reducible exact H) | (have H2_ := (Option.bind_some _ _).symm.trans H; rw [hy171]; with_reducible exact H2_) | (have H2_ := (Option.bind_some _ _).symm.trans H; with_reducible exact H2_) | with_reducible exact H | (rw [hy171]; exact H) | exact H
    have Ny171 := Aside0.mk hy171
    clear hy171
    simp only [Option.some.injEq, Prod.mk.injEq] at H
    obtain ⟨rfl, rfl⟩ := H
    obtain ⟨hcz61_0, hcz61_1, hcz61_2, hcz61_3⟩ := zc4 BK150
    obtain ⟨hfz61_0, hfz61_1, hfz61_2, hfz61_3⟩ := zf4 BK150
    go_wp2_with (first | ((with_reducible refine gate_builtin (b := .append) (xs := #[.tmp 74, .tmp 75]) rfl ?_); at_builtin; refine Kd.R_append (Kd.int .u8) (w0 := w) w.heap.size rfl (.tmp 74) (.tmp 75) 49 5 (.int .u8 0) 1 rfl Tryd.underlying49 info5 rfl (by decide) (by omega) u7 x7_1 0 [.int .u8 0] (fun _ => True) (fun _ => False) rfl rfl ?aP (fun _ hk => hk.elim) ?aF ?aO ?aB ?aS ?aL ?_; (case aP => exact rfl); (case aB => exact bA); (case aF => exact (fun _ _ => trivial)); (case aO => exact (by (with_reducible repeat (first | apply Kd.R_alloc | apply Kd.R_drewN | apply Kd.R_drew)); exact HO_7.out)); (case aS => exact (below_size bA)); (case aL => have := LMc59.out; omega); intro v169 w62 ho hb hg hat; rw [← Ny168.out] at ho; have HO170 := as_ (ho); replace BK150 := as_ (blk_grown (g := gb150) (o := .cells #[.int .i64 a0_0, .int .i64 a0_1, .int .u64 a0_2, .string a0_3] 32 (0, 0)) (bk BK150) hg (Kd.R_ne HO_7.out BK150.out (by decide))); replace HB := as_ (hb); clear HO_7; clear ho hb hg hat) | ((with_reducible refine gate_builtin (b := .append) (xs := #[.tmp 77, .tmp 78]) rfl ?_); at_builtin; refine Kd.R_append (Kd.int .u8) (w0 := w) w.heap.size rfl (.tmp 77) (.tmp 78) 49 5 (.int .u8 0) 1 rfl Tryd.underlying49 info5 rfl (by decide) (by omega) v169 y168 1 [.int .u8 1] (fun _ => True) (fun _ => False) rfl rfl ?aP (fun _ hk => hk.elim) ?aF ?aO ?aB ?aS ?aL ?_; (case aP => exact rfl); (case aB => exact bA); (case aF => exact (fun _ _ => trivial)); (case aO => exact (by (with_reducible repeat (first | apply Kd.R_alloc | apply Kd.R_drewN | apply Kd.R_drew)); exact HO170.out)); (case aS => exact (below_size bA)); (case aL => have := LMc60.out; omega); intro v172 w63 ho hb hg hat; rw [← Ny171.out] at ho; have HO173 := as_ (ho); replace BK150 := as_ (blk_grown (g := gb150) (o := .cells #[.int .i64 a0_0, .int .i64 a0_1, .int .u64 a0_2, .string a0_3] 32 (0, 0)) (bk BK150) hg (Kd.R_ne HO170.out BK150.out (by decide))); replace HB := as_ (hb); clear HO170; clear ho hb hg hat; have hcv64 := own_string (P := Tryd.prog) Tryd.underlying49 Tryd.underlying5 Tryd.underlying9 (Kd.own_of_R HO173.out)))
    go_ret2
    exact ⟨eW, by repeat (first | (with_reducible first | exact HB.out | apply below_alloc | apply pw_below_drewN | apply below_drew1 | refine below_set ?_ GE150.out) | exact HB.out)⟩
   rw [if_pos c45] at H
   have c45b0 : decide (x8_1 < (a0_3.size : Int)) = true := decide_eq_true c45
   clear c45
   by_cases c46 : 0 ≤ x8_1
   rotate_left
   ·rw [if_neg c46] at H
    exact absurd H (by simp)
   rw [if_pos c46] at H
   have c46b0 : decide (0 ≤ x8_1) = true := decide_eq_true c46
   clear c46
   by_cases c48 : x7_1.length < 140737488355328
   rotate_left
   ·rw [if_neg c48] at H
    exact absurd H (by simp)
   rw [if_pos c48] at H
   have LMc48 := Aside0.mk c48
   clear c48
   obtain ⟨y162, hy162⟩ : ∃ y_ : List Int, y_ = (x7_1 ++ [bt a0_3 x8_1]) := ⟨_, rfl⟩
   replace H : (if (bt a0_3 x8_1) = 0 then (if y162.length < 140737488355328 then (withyref03_Put.l1 k1 (y162 ++ [255]) (wrap64 (x8_1 + 1)) a0_0 a0_1 a0_2 a0_3) else (none)) else (withyref03_Put.l1 k1 y162 (wrap64 (x8_1 + 1)) a0_0 a0_1 a0_2 a0_3)) = some (r1, r2) := by first | (rw [hy162]; with_reducible exact H) | (have H2_ := (Option.bind_some _ _).symm.trans H; rw [hy162]; with_reducible exact H2_) | (have H2_ := (Option.bind_some _ _).symm.trans H; with_reducible exact H2_) | with_reducible exact H | (rw [hy162]; exact H) | exact H
   have Ny162 := Aside0.mk hy162
   clear hy162
   by_cases c50 : (bt a0_3 x8_1) = 0
   rotate_left
   ·rw [if_neg c50] at H
    have c50b0 : ((bt a0_3 x8_1) == 0) = false := beq_eq_false_iff_ne.mpr c50
    have c50b1 : ((bt a0_3 x8_1) != 0) = true := bne_iff_ne.mpr c50
    have H' := Aside0.mk H
    clear H
    obtain ⟨hcz56_0, hcz56_1, hcz56_2, hcz56_3⟩ := zc4 BK150
    obtain ⟨hfz56_0, hfz56_1, hfz56_2, hfz56_3⟩ := zf4 BK150
    have p47 : 0 ≤ (x8_1 : Int) := of_decide_eq_true aM
    have q47 : x8_1 < (a0_3.size : Int) := of_decide_eq_true aM
    have hx47 := bt_at a0_3 x8_1
    replace p47 := eq_true p47
    replace q47 := eq_true q47
    go_wp2_with (first | ((with_reducible refine gate_builtin (b := .append) (xs := #[.tmp 59, .tmp 64]) rfl ?_); at_builtin; refine Kd.R_append (Kd.int .u8) (w0 := w) w.heap.size rfl (.tmp 59) (.tmp 64) 49 5 (.int .u8 0) 1 rfl Tryd.underlying49 info5 rfl (by decide) (by omega) u7 x7_1 (bt a0_3 x8_1) [.int .u8 (bt a0_3 x8_1)] (fun _ => True) (fun _ => False) rfl rfl ?aP (fun _ hk => hk.elim) ?aF ?aO ?aB ?aS ?aL ?_; (case aP => exact rfl); (case aB => exact bA); (case aF => exact (fun _ _ => trivial)); (case aO => exact (by (with_reducible repeat (first | apply Kd.R_alloc | apply Kd.R_drewN | apply Kd.R_drew)); exact HO_7.out)); (case aS => exact (below_size bA)); (case aL => have := LMc48.out; omega); intro v163 w57 ho hb hg hat; rw [← Ny162.out] at ho; have HO164 := as_ (ho); replace BK150 := as_ (blk_grown (g := gb150) (o := .cells #[.int .i64 a0_0, .int .i64 a0_1, .int .u64 a0_2, .string a0_3] 32 (0, 0)) (bk BK150) hg (Kd.R_ne HO_7.out BK150.out (by decide))); replace HB := as_ (hb); clear HO_7; clear ho hb hg hat; obtain ⟨hcz58_0, hcz58_1, hcz58_2, hcz58_3⟩ := zc4 BK150; obtain ⟨hfz58_0, hfz58_1, hfz58_2, hfz58_3⟩ := zf4 BK150; have p49 : 0 ≤ (x8_1 : Int) := of_decide_eq_true aM; have q49 : x8_1 < (a0_3.size : Int) := of_decide_eq_true aM; have hx49 := bt_at a0_3 x8_1; replace p49 := eq_true p49; replace q49 := eq_true q49))
    go_roundg k1
    case measure => have := HK1.out; omega
    case rel => exact ⟨(y162), (wrap64 (x8_1 + 1)), (by first | rfl | (simp; done) | (simp [*]; done)), H', ⟨by have := HK1.out; omega⟩, ⟨by (with_reducible repeat (first | apply Kd.R_alloc | apply Kd.R_drewN | apply Kd.R_drew)); exact HO164.out⟩, ⟨by refine bx ?_; exact BK150.out⟩, ⟨by repeat (first | (with_reducible first | exact HB.out | apply below_alloc | apply pw_below_drewN | apply below_drew1 | refine below_set ?_ GE150.out) | exact HB.out)⟩⟩
   rw [if_pos c50] at H
   have c50b0 : ((bt a0_3 x8_1) == 0) = true := beq_iff_eq.mpr c50
   have c50b1 : ((bt a0_3 x8_1) != 0) = false := bne_eq_false_iff_eq.mpr c50
   clear c50
   by_cases c51 : y162.length < 140737488355328
   rotate_left
   ·rw [if_neg c51] at H
    exact absurd H (by simp)
   rw [if_pos c51] at H
   have LMc51 := Aside0.mk c51
   clear c51
   obtain ⟨y165, hy165⟩ : ∃ y_ : List Int, y_ = (y162 ++ [255]) := ⟨_, rfl⟩
   replace H : (withyref03_Put.l1 k1 y165 (wrap64 (x8_1 + 1)) a0_0 a0_1 a0_2 a0_3) = some (r1, r2) := by first | (rw [hy165]; with_reducible exact H) | (have H2_ := (Option.bind_some _ _).symm.trans H; rw [hy165]; with_reducible exact H2_) | (have H2_ := (Option.bind_some _ _).symm.trans H; with_reducible exact H2_) | with_reducible exact H | (rw [hy165]; exact H) | exact H
   have Ny165 := Aside0.mk hy165
   clear hy165
   have H' := Aside0.mk H
   clear H
   obtain ⟨hcz52_0, hcz52_1, hcz52_2, hcz52_3⟩ := zc4 BK150
   obtain ⟨hfz52_0, hfz52_1, hfz52_2, hfz52_3⟩ := zf4 BK150
   have p47 : 0 ≤ (x8_1 : Int) := of_decide_eq_true aM
   have q47 : x8_1 < (a0_3.size : Int) := of_decide_eq_true aM
   have hx47 := bt_at a0_3 x8_1
   replace p47 := eq_true p47
   replace q47 := eq_true q47
   go_wp2_with (first | ((with_reducible refine gate_builtin (b := .append) (xs := #[.tmp 59, .tmp 64]) rfl ?_); at_builtin; refine Kd.R_append (Kd.int .u8) (w0 := w) w.heap.size rfl (.tmp 59) (.tmp 64) 49 5 (.int .u8 0) 1 rfl Tryd.underlying49 info5 rfl (by decide) (by omega) u7 x7_1 (bt a0_3 x8_1) [.int .u8 (bt a0_3 x8_1)] (fun _ => True) (fun _ => False) rfl rfl ?aP (fun _ hk => hk.elim) ?aF ?aO ?aB ?aS ?aL ?_; (case aP => exact rfl); (case aB => exact bA); (case aF => exact (fun _ _ => trivial)); (case aO => exact (by (with_reducible repeat (first | apply Kd.R_alloc | apply Kd.R_drewN | apply Kd.R_drew)); exact HO_7.out)); (case aS => exact (below_size bA)); (case aL => have := LMc48.out; omega); intro v163 w53 ho hb hg hat; rw [← Ny162.out] at ho; have HO164 := as_ (ho); replace BK150 := as_ (blk_grown (g := gb150) (o := .cells #[.int .i64 a0_0, .int .i64 a0_1, .int .u64 a0_2, .string a0_3] 32 (0, 0)) (bk BK150) hg (Kd.R_ne HO_7.out BK150.out (by decide))); replace HB := as_ (hb); clear HO_7; clear ho hb hg hat; obtain ⟨hcz54_0, hcz54_1, hcz54_2, hcz54_3⟩ := zc4 BK150; obtain ⟨hfz54_0, hfz54_1, hfz54_2, hfz54_3⟩ := zf4 BK150; have p49 : 0 ≤ (x8_1 : Int) := of_decide_eq_true aM; have q49 : x8_1 < (a0_3.size : Int) := of_decide_eq_true aM; have hx49 := bt_at a0_3 x8_1; replace p49 := eq_true p49; replace q49 := eq_true q49) | ((with_reducible refine gate_builtin (b := .append) (xs := #[.tmp 71, .tmp 72]) rfl ?_); at_builtin; refine Kd.R_append (Kd.int .u8) (w0 := w) w.heap.size rfl (.tmp 71) (.tmp 72) 49 5 (.int .u8 0) 1 rfl Tryd.underlying49 info5 rfl (by decide) (by omega) v163 y162 255 [.int .u8 255] (fun _ => True) (fun _ => False) rfl rfl ?aP (fun _ hk => hk.elim) ?aF ?aO ?aB ?aS ?aL ?_; (case aP => exact rfl); (case aB => exact bA); (case aF => exact (fun _ _ => trivial)); (case aO => exact (by (with_reducible repeat (first | apply Kd.R_alloc | apply Kd.R_drewN | apply Kd.R_drew)); exact HO164.out)); (case aS => exact (below_size bA)); (case aL => have := LMc51.out; omega); intro v166 w55 ho hb hg hat; rw [← Ny165.out] at ho; have HO167 := as_ (ho); replace BK150 := as_ (blk_grown (g := gb150) (o := .cells #[.int .i64 a0_0, .int .i64 a0_1, .int .u64 a0_2, .string a0_3] 32 (0, 0)) (bk BK150) hg (Kd.R_ne HO164.out BK150.out (by decide))); replace HB := as_ (hb); clear HO164; clear ho hb hg hat))
   go_roundg k1
   case measure => have := HK1.out; omega
   case rel => exact ⟨(y165), (wrap64 (x8_1 + 1)), (by first | rfl | (simp; done) | (simp [*]; done)), H', ⟨by have := HK1.out; omega⟩, ⟨by (with_reducible repeat (first | apply Kd.R_alloc | apply Kd.R_drewN | apply Kd.R_drew)); exact HO167.out⟩, ⟨by refine bx ?_; exact BK150.out⟩, ⟨by repeat (first | (with_reducible first | exact HB.out | apply below_alloc | apply pw_below_drewN | apply below_drew1 | refine below_set ?_ GE150.out) | exact HB.out)⟩⟩
/-! ### withylaw03_Ref: function 12 -/
def withylaw03_Ref.f (a0_0 : Int) (a0_1 : Int) (a0_2 : Int) (a0_3 : ByteArray) : Option (Int × Int × Int × ByteArray) := some (a0_0, a0_1, a0_2, a0_3)
set_option maxHeartbeats 8000000 in
set_option maxRecDepth 100000 in
theorem withylaw03_Ref.calls (a0_0 : Int) (a0_1 : Int) (a0_2 : Int) (a0_3 : ByteArray) (r1 : Int) (r2 : Int) (r3 : Int) (r4 : ByteArray) (w : World) (h : withylaw03_Ref.f a0_0 a0_1 a0_2 a0_3 = some (r1, r2, r3, r4)) :
  Calls Tryd.prog 12 #[.agg #[.int .i64 a0_0, .int .i64 a0_1, .int .u64 a0_2, .string a0_3]] w fun e w' => e = .returned (.agg #[.int .i64 r1, .int .i64 r2, .int .u64 r3, .string r4]) ∧ Below w.heap.size w w' := by
 have hu24 := Tryd.underlying24
 have hu32 := Tryd.underlying32
 have HB := as_ (Below.refl w.heap.size w)
 have H : (some (a0_0, a0_1, a0_2, a0_3)) = some (r1, r2, r3, r4) := h
 clear h
 simp only [Option.some.injEq, Prod.mk.injEq] at H
 obtain ⟨rfl, rfl, rfl, rfl⟩ := H
 go_enter Tryd.func12, Tryd.ntmps12
 go_wp2_with (first | ((with_reducible refine gate_dst (N := 1) rfl ?_); refine box_event (by rfl) (N := 1) (by rfl) (cs := #[.int .i64 a0_0, .int .i64 a0_1, .int .u64 a0_2, .string a0_3]) (t := 24) gS ?_; intro gb174 hg w2 hbox hb; have BK174 := as_ (hbox); have GW174 := gw hg bA; have GE174 := gw hg bA; replace HB := as_ (below_step bA hb); clear hb hbox hg) | ((with_reducible refine gate_dst (N := 2) rfl ?_); refine box_event ?hg (N := 2) ?hd (cs := #[.int .i64 0, .int .i64 0, .int .u64 0, .string (⟨#[]⟩ : ByteArray)]) (t := 32) ?hr ?_; (case hd => rfl); (case hg => rfl); (case hr => first | (go_simp; done) | (go_simp; rfl)); intro gb175 hg w3 hbox hb; have BK175 := as_ (hbox); have GW175 := gw hg bA; have GE175 := gw hg bA; have NB174_175 := nl BK174 hg; have NB175_174 := ng BK174 hg; replace BK174 := bb BK174 hb; replace HB := as_ (below_step bA hb); clear hb hbox hg; have hnb4 := NB174_175.out; have hnc4 := NB175_174.out; obtain ⟨hcz5_0, hcz5_1, hcz5_2, hcz5_3⟩ := zc4 BK174; obtain ⟨hfz5_0, hfz5_1, hfz5_2, hfz5_3⟩ := zf4 BK174; obtain ⟨hcz6_0, hcz6_1, hcz6_2, hcz6_3⟩ := zc4 BK175; obtain ⟨hfz6_0, hfz6_1, hfz6_2, hfz6_3⟩ := zf4 BK175))
 refine bodyPost_ret (results_cell_row rfl _ _ gb175 32 #[.int .i64 a0_0, .int .i64 a0_1, .int .u64 a0_2, .string a0_3] (0, 0) _ rfl (by refine bx ?_; refine blk_put (cs := #[.int .i64 a0_0, .int .i64 a0_1, .int .u64 a0_2, .string (⟨#[]⟩ : ByteArray)]) ?_ 3 _ rfl; refine bx ?_; refine blk_put (cs := #[.int .i64 a0_0, .int .i64 a0_1, .int .u64 0, .string (⟨#[]⟩ : ByteArray)]) ?_ 2 _ rfl; refine bx ?_; refine blk_put (cs := #[.int .i64 a0_0, .int .i64 0, .int .u64 0, .string (⟨#[]⟩ : ByteArray)]) ?_ 1 _ rfl; refine bx ?_; refine blk_put (cs := #[.int .i64 0, .int .i64 0, .int .u64 0, .string (⟨#[]⟩ : ByteArray)]) ?_ 0 _ rfl; refine bx ?_; exact BK175.out) Tryd.underlying32 rfl (by kernel_rfl)) rfl ?_
 exact ⟨eW, by repeat (first | (with_reducible first | exact HB.out | apply below_alloc | apply pw_below_drewN | apply below_drew1 | refine below_set ?_ GE174.out | refine below_set ?_ GE175.out) | exact HB.out)⟩

/-! ### col_integer: function 30 -/
def col_integer.l0 : Nat → ByteArray → Int → Int → Int → Option (Int × Int × Int)
 | 0, _, _, _, _ => none
 | k + 1, x0, x1, x7, x14 => if x14 < 8 then (if 0 ≤ (wrap64 (x1 + x14)) then (if (wrap64 (x1 + x14)) < (x0.size : Int) then (col_integer.l0 k x0 x1 (Go.bits .or .u64 (IntKind.u64.wrap (x7 * 256)) (IntKind.u64.wrap (bt x0 (wrap64 (x1 + x14))))) (wrap64 (x14 + 1))) else (none)) else (none)) else (some (wrap64 (Go.bits .xor .u64 x7 9223372036854775808), wrap64 (x1 + 8), 0))
def col_integer.f (k : Nat) (a0 : ByteArray) (a1 : Int) : Option (Int × Int × Int) := if (wrap64 ((a0.size : Int) - a1)) < 8 then (some (0, 0, 7)) else (col_integer.l0 k a0 a1 0 0)
theorem col_integer.mono_l : ∀ k, (∀ y0 y1 y2 y3, LeO (col_integer.l0 k y0 y1 y2 y3) (col_integer.l0 (k + 1) y0 y1 y2 y3))
 | 0 => fun _ _ _ _ r h => by simp [col_integer.l0] at h
 | k + 1 => by
  have ih0 := col_integer.mono_l k
  ·intro y0 y1 y2 y3
   unfold col_integer.l0
   repeat' first
   | (with_reducible exact ih0 _ _ _ _)
   | (with_reducible exact LeO.refl _)
   | (with_reducible exact LeO.none _)
   | (with_reducible refine LeO.ite ?_ ?_)
   | (with_reducible refine LeO.bind ?_ (fun _ => ?_))
   | exact ih0 _ _ _ _
   | exact LeO.none _
   | refine LeO.ite ?_ ?_
   | refine LeO.bind ?_ (fun _ => ?_)
theorem col_integer.mono : ∀ a0 a1 k, LeO (col_integer.f k a0 a1) (col_integer.f (k + 1) a0 a1) := by
 intro a0 a1 k
 have ih0 := col_integer.mono_l k
 unfold col_integer.f
 repeat' first
   | (with_reducible exact ih0 _ _ _ _)
   | (with_reducible exact LeO.refl _)
   | (with_reducible exact LeO.none _)
   | (with_reducible refine LeO.ite ?_ ?_)
   | (with_reducible refine LeO.bind ?_ (fun _ => ?_))
   | exact ih0 _ _ _ _
   | exact LeO.none _
   | refine LeO.ite ?_ ?_
   | refine LeO.bind ?_ (fun _ => ?_)
set_option maxHeartbeats 8000000 in
set_option maxRecDepth 100000 in
theorem col_integer.calls (k : Nat) (a0 : ByteArray) (a1 : Int) (r1 : Int) (r2 : Int) (r3 : Int) (w : World) (h : col_integer.f k a0 a1 = some (r1, r2, r3)) :
  Calls Tryd.prog 30 #[.string a0, .int .i64 a1] w fun e w' => e = .returned (.tuple #[.int .i64 r1, .int .i64 r2, .int .i64 r3]) ∧ Drawn0 w w' := by
 have H : (if (wrap64 ((a0.size : Int) - a1)) < 8 then (some (0, 0, 7)) else (col_integer.l0 k a0 a1 0 0)) = some (r1, r2, r3) := h
 clear h
 by_cases c3 : (wrap64 ((a0.size : Int) - a1)) < 8
 ·rw [if_pos c3] at H
  have c3b0 : decide ((wrap64 ((a0.size : Int) - a1)) < 8) = true := decide_eq_true c3
  clear c3
  simp only [Option.some.injEq, Prod.mk.injEq] at H
  obtain ⟨rfl, rfl, rfl⟩ := H
  go_enter Tryd.func30, Tryd.ntmps30
  go_wp2
  go_ret3
  exact ⟨by first | rfl | (simp; done) | (simp [*]; done), by repeat (first | exact Drawn0.refl _ | apply Drawn0.step)⟩
 rw [if_neg c3] at H
 have c3b0 : decide ((wrap64 ((a0.size : Int) - a1)) < 8) = false := decide_eq_false c3
 clear c3
 have H' := Aside0.mk H
 clear H
 go_enter Tryd.func30, Tryd.ntmps30
 go_wp2
 go_loopg [7, 14] k (fun kq v7 v14 w' => ∃ (x7_1 : Int) (x14_1 : Int), v7 = .int .u64 x7_1 ∧ v14 = .int .i64 x14_1 ∧ Aside0 (col_integer.l0 kq a0 a1 x7_1 x14_1 = some (r1, r2, r3)) ∧ Aside0 (kq ≤ k) ∧ Drawn0 w w')
 case atStart => exact ⟨(0), (0), (by first | rfl | (simp; done) | (simp [*]; done)), (by first | rfl | (simp; done) | (simp [*]; done)), H', ⟨Nat.le_refl _⟩, by repeat (first | exact Drawn0.refl _ | apply Drawn0.step)⟩
 case round =>
  clear H'
  try clear p2
  try clear c3
  try clear c3b0
  obtain ⟨x7_1, x14_1, rfl, rfl, HA, HK1, ⟨m1, rfl⟩⟩ := hrel
  cases gk with
  | zero => exact absurd HA.out (by simp [col_integer.l0])
  | succ k1 =>
   have H := HA.out
   clear HA
   simp only [col_integer.l0] at H
   by_cases c4 : x14_1 < 8
   rotate_left
   ·rw [if_neg c4] at H
    have c4b0 : decide (x14_1 < 8) = false := decide_eq_false c4
    clear c4
    simp only [Option.some.injEq, Prod.mk.injEq] at H
    obtain ⟨rfl, rfl, rfl⟩ := H
    go_wp2
    go_ret3
    exact ⟨by first | rfl | (simp; done) | (simp [*]; done), by repeat (first | exact Drawn0.refl _ | apply Drawn0.step)⟩
 
   rw [if_pos c4] at H
   have c4b0 : decide (x14_1 < 8) = true := decide_eq_true c4
   clear c4
   obtain ⟨ji5, hji5⟩ : ∃ j_ : Int, (wrap64 (a1 + x14_1)) = j_ := ⟨_, rfl⟩
   replace H : (if 0 ≤ (ji5) then (if (ji5) < (a0.size : Int) then (col_integer.l0 k1 a0 a1 (Go.bits .or .u64 (IntKind.u64.wrap (x7_1 * 256)) (IntKind.u64.wrap (bt a0 (ji5)))) (wrap64 (x14_1 + 1))) else (none)) else (none)) = some (r1, r2, r3) := by first | (rw [hji5] at H; exact H) | (simp only [hji5] at H ⊢; exact H)
   have hji5w : (IntKind.i64.wrap (a1 + x14_1)) = ji5 := (i64_w _).trans hji5
   by_cases c6 : 0 ≤ (ji5)
   rotate_left
   ·rw [if_neg c6] at H
    exact absurd H (by simp)
   rw [if_pos c6] at H
   have c6b0 : decide (0 ≤ (ji5)) = true := decide_eq_true c6
   clear c6
   by_cases c7 : (ji5) < (a0.size : Int)
   rotate_left
   ·rw [if_neg c7] at H
    exact absurd H (by simp)
   rw [if_pos c7] at H
   have c7b0 : decide ((ji5) < (a0.size : Int)) = true := decide_eq_true c7
   clear c7
   have H' := Aside0.mk H
   clear H
   have p8 : 0 ≤ ((ji5) : Int) := of_decide_eq_true aM
   have q8 : (ji5) < (a0.size : Int) := of_decide_eq_true aM
   have hx8 := bt_at a0 (ji5)
   replace p8 := eq_true p8
   replace q8 := eq_true q8
   go_wp2
   go_roundg k1
   case measure => have := HK1.out; omega
   case rel => exact ⟨(Go.bits .or .u64 (IntKind.u64.wrap (x7_1 * 256)) (IntKind.u64.wrap (bt a0 (ji5)))), (wrap64 (x14_1 + 1)), (by first | rfl | (simp; done) | (simp only [← hji5] <;> (first | rfl | simp)) | (simp [*]; done)), (by first | rfl | (simp; done) | (simp [*]; done)), H', ⟨by have := HK1.out; omega⟩, by repeat (first | exact Drawn0.refl _ | apply Drawn0.step)⟩
/-! ### word_more: function 44 -/
def word_more.f (a0 : Int) : Option (Int) := if a0 > 249 then (some (wrap64 ((wrap64 (a0)) - 247))) else (if a0 = 249 then (some ((0 + 1) + 1)) else (if a0 ≥ 241 then (some (0 + 1)) else (some 0)))
set_option maxHeartbeats 8000000 in
set_option maxRecDepth 100000 in
theorem word_more.calls (a0 : Int) (r : Int) (w : World) (h : word_more.f a0 = some r) :
  Calls Tryd.prog 44 #[.int .u8 a0] w fun e w' => e = .returned (.int .i64 r) ∧ Drawn0 w w' := by
 have H : (if a0 > 249 then (some (wrap64 ((wrap64 (a0)) - 247))) else (if a0 = 249 then (some ((0 + 1) + 1)) else (if a0 ≥ 241 then (some (0 + 1)) else (some 0)))) = some r := h
 clear h
 by_cases c2 : a0 > 249
 ·rw [if_pos c2] at H
  have c2b0 : decide (249 < a0) = true := decide_eq_true c2
  clear c2
  obtain rfl := Option.some.inj H
  go_enter Tryd.func44, Tryd.ntmps44
  go_wp2
  go_ret
  exact ⟨by first | rfl | (simp; done) | (simp [*]; done), by repeat (first | exact Drawn0.refl _ | apply Drawn0.step)⟩
 rw [if_neg c2] at H
 have c2b0 : decide (249 < a0) = false := decide_eq_false c2
 clear c2
 by_cases c3 : a0 = 249
 ·rw [if_pos c3] at H
  have c3b0 : (a0 == 249) = true := beq_iff_eq.mpr c3
  have c3b1 : (a0 != 249) = false := bne_eq_false_iff_eq.mpr c3
  clear c3
  obtain rfl := Option.some.inj H
  go_enter Tryd.func44, Tryd.ntmps44
  go_wp2
  go_ret
  exact ⟨by first | rfl | (simp; done) | (simp [*]; done), by repeat (first | exact Drawn0.refl _ | apply Drawn0.step)⟩
 rw [if_neg c3] at H
 have c3b0 : (a0 == 249) = false := beq_eq_false_iff_ne.mpr c3
 have c3b1 : (a0 != 249) = true := bne_iff_ne.mpr c3
 by_cases c4 : a0 ≥ 241
 ·rw [if_pos c4] at H
  have c4b0 : decide (241 ≤ a0) = true := decide_eq_true c4
  clear c4
  obtain rfl := Option.some.inj H
  go_enter Tryd.func44, Tryd.ntmps44
  go_wp2
  go_ret
  exact ⟨by first | rfl | (simp; done) | (simp [*]; done), by repeat (first | exact Drawn0.refl _ | apply Drawn0.step)⟩
 rw [if_neg c4] at H
 have c4b0 : decide (241 ≤ a0) = false := decide_eq_false c4
 clear c4
 obtain rfl := Option.some.inj H
 go_enter Tryd.func44, Tryd.ntmps44
 go_wp2
 go_ret
 exact ⟨by first | rfl | (simp; done) | (simp [*]; done), by repeat (first | exact Drawn0.refl _ | apply Drawn0.step)⟩

/-! ### word_Get: function 31 -/
mutual
def word_Get.j0 : Nat → ByteArray → Int → Bool → Option (Int × Int × Int)
 | 0, _, _, _ => none
 | k + 1, x0, x1, x19 => if x19 = true then (some (0, 0, 4)) else (if x1 = (x0.size : Int) then (word_Get.j1 k x0 x1 true) else (if 0 ≤ x1 then (if x1 < (x0.size : Int) then ((word_more.f (bt x0 x1)).bind fun t176 => (word_Get.j1 k x0 x1 (decide ((wrap64 ((wrap64 ((x0.size : Int) - x1)) - 1)) < t176)))) else (none)) else (none)))
def word_Get.j1 : Nat → ByteArray → Int → Bool → Option (Int × Int × Int)
 | 0, _, _, _ => none
 | k + 1, x0, x1, x35 => if x35 = true then (some (0, 0, 7)) else (if 0 ≤ x1 then (if x1 < (x0.size : Int) then ((word_more.f (bt x0 x1)).bind fun t177 => (word_Get.l0 k x0 x1 t177 0 t177 0)) else (none)) else (none))
def word_Get.l0 : Nat → ByteArray → Int → Int → Int → Int → Int → Option (Int × Int × Int)
 | 0, _, _, _, _, _, _ => none
 | k + 1, x0, x1, x7, x8, x40, x41 => if x41 < x40 then (if 0 ≤ (wrap64 ((wrap64 (x1 + 1)) + x41)) then (if (wrap64 ((wrap64 (x1 + 1)) + x41)) < (x0.size : Int) then (word_Get.l0 k x0 x1 x7 (Go.bits .or .u64 (IntKind.u64.wrap (x8 * 256)) (IntKind.u64.wrap (bt x0 (wrap64 ((wrap64 (x1 + 1)) + x41))))) x40 (wrap64 (x41 + 1))) else (none)) else (none)) else (if 0 ≤ x1 then (if x1 < (x0.size : Int) then (if x7 = 0 then ((word_Put.f k (IntKind.u64.wrap (bt x0 x1))).bind fun t178 => (if x1 ≤ (wrap64 ((wrap64 (x1 + 1)) + x7)) then (if (wrap64 ((wrap64 (x1 + 1)) + x7)) ≤ (x0.size : Int) then (if t178.toList = (x0.extract (x1 : Int).toNat ((wrap64 ((wrap64 (x1 + 1)) + x7)) : Int).toNat).toList then (some (IntKind.u64.wrap (bt x0 x1), wrap64 ((wrap64 (x1 + 1)) + x7), 0)) else (some (0, 0, 3))) else (none)) else (none))) else (if x7 = 1 then ((word_Put.f k (IntKind.u64.wrap (x8 + (240 + ((((bt x0 x1) - 241) % 256) * 256))))).bind fun t179 => (if x1 ≤ (wrap64 ((wrap64 (x1 + 1)) + x7)) then (if (wrap64 ((wrap64 (x1 + 1)) + x7)) ≤ (x0.size : Int) then (if t179.toList = (x0.extract (x1 : Int).toNat ((wrap64 ((wrap64 (x1 + 1)) + x7)) : Int).toNat).toList then (some (IntKind.u64.wrap (x8 + (240 + ((((bt x0 x1) - 241) % 256) * 256))), wrap64 ((wrap64 (x1 + 1)) + x7), 0)) else (some (0, 0, 3))) else (none)) else (none))) else (if x7 = 2 then ((word_Put.f k (IntKind.u64.wrap (x8 + 2288))).bind fun t180 => (if x1 ≤ (wrap64 ((wrap64 (x1 + 1)) + x7)) then (if (wrap64 ((wrap64 (x1 + 1)) + x7)) ≤ (x0.size : Int) then (if t180.toList = (x0.extract (x1 : Int).toNat ((wrap64 ((wrap64 (x1 + 1)) + x7)) : Int).toNat).toList then (some (IntKind.u64.wrap (x8 + 2288), wrap64 ((wrap64 (x1 + 1)) + x7), 0)) else (some (0, 0, 3))) else (none)) else (none))) else ((word_Put.f k x8).bind fun t181 => (if x1 ≤ (wrap64 ((wrap64 (x1 + 1)) + x7)) then (if (wrap64 ((wrap64 (x1 + 1)) + x7)) ≤ (x0.size : Int) then (if t181.toList = (x0.extract (x1 : Int).toNat ((wrap64 ((wrap64 (x1 + 1)) + x7)) : Int).toNat).toList then (some (x8, wrap64 ((wrap64 (x1 + 1)) + x7), 0)) else (some (0, 0, 3))) else (none)) else (none)))))) else (none)) else (none))
end
def word_Get.f (k : Nat) (a0 : ByteArray) (a1 : Int) : Option (Int × Int × Int) := if a1 < 0 then (word_Get.j0 k a0 a1 true) else (word_Get.j0 k a0 a1 (decide (a1 > (a0.size : Int))))
theorem word_Get.mono_l : ∀ k, (∀ y0 y1 y2, LeO (word_Get.j0 k y0 y1 y2) (word_Get.j0 (k + 1) y0 y1 y2)) ∧ (∀ y0 y1 y2, LeO (word_Get.j1 k y0 y1 y2) (word_Get.j1 (k + 1) y0 y1 y2)) ∧ (∀ y0 y1 y2 y3 y4 y5, LeO (word_Get.l0 k y0 y1 y2 y3 y4 y5) (word_Get.l0 (k + 1) y0 y1 y2 y3 y4 y5))
 | 0 => ⟨fun _ _ _ r h => by simp [word_Get.j0] at h, fun _ _ _ r h => by simp [word_Get.j1] at h, fun _ _ _ _ _ _ r h => by simp [word_Get.l0] at h⟩
 | k + 1 => by
  obtain ⟨ih0, ih1, ih2⟩ := word_Get.mono_l k
  refine ⟨?_, ?_, ?_⟩
  ·intro y0 y1 y2
   unfold word_Get.j0
   repeat' first
   | (with_reducible exact ih0 _ _ _)
   | (with_reducible exact ih1 _ _ _)
   | (with_reducible exact ih2 _ _ _ _ _ _)
   | (with_reducible exact word_Put.mono _ _)
   | (with_reducible exact LeO.refl _)
   | (with_reducible exact LeO.none _)
   | (with_reducible refine LeO.ite ?_ ?_)
   | (with_reducible refine LeO.bind ?_ (fun _ => ?_))
   | exact ih0 _ _ _
   | exact ih1 _ _ _
   | exact ih2 _ _ _ _ _ _
   | exact word_Put.mono _ _
   | exact LeO.none _
   | refine LeO.ite ?_ ?_
   | refine LeO.bind ?_ (fun _ => ?_)
  ·intro y0 y1 y2
   unfold word_Get.j1
   repeat' first
   | (with_reducible exact ih0 _ _ _)
   | (with_reducible exact ih1 _ _ _)
   | (with_reducible exact ih2 _ _ _ _ _ _)
   | (with_reducible exact word_Put.mono _ _)
   | (with_reducible exact LeO.refl _)
   | (with_reducible exact LeO.none _)
   | (with_reducible refine LeO.ite ?_ ?_)
   | (with_reducible refine LeO.bind ?_ (fun _ => ?_))
   | exact ih0 _ _ _
   | exact ih1 _ _ _
   | exact ih2 _ _ _ _ _ _
   | exact word_Put.mono _ _
   | exact LeO.none _
   | refine LeO.ite ?_ ?_
   | refine LeO.bind ?_ (fun _ => ?_)
  ·intro y0 y1 y2 y3 y4 y5
   unfold word_Get.l0
   repeat' first
   | (with_reducible exact ih0 _ _ _)
   | (with_reducible exact ih1 _ _ _)
   | (with_reducible exact ih2 _ _ _ _ _ _)
   | (with_reducible exact word_Put.mono _ _)
   | (with_reducible exact LeO.refl _)
   | (with_reducible exact LeO.none _)
   | (with_reducible refine LeO.ite ?_ ?_)
   | (with_reducible refine LeO.bind ?_ (fun _ => ?_))
   | exact ih0 _ _ _
   | exact ih1 _ _ _
   | exact ih2 _ _ _ _ _ _
   | exact word_Put.mono _ _
   | exact LeO.none _
   | refine LeO.ite ?_ ?_
   | refine LeO.bind ?_ (fun _ => ?_)
theorem word_Get.mono : ∀ a0 a1 k, LeO (word_Get.f k a0 a1) (word_Get.f (k + 1) a0 a1) := by
 intro a0 a1 k
 obtain ⟨ih0, ih1, ih2⟩ := word_Get.mono_l k
 unfold word_Get.f
 repeat' first
   | (with_reducible exact ih0 _ _ _)
   | (with_reducible exact ih1 _ _ _)
   | (with_reducible exact ih2 _ _ _ _ _ _)
   | (with_reducible exact word_Put.mono _ _)
   | (with_reducible exact LeO.refl _)
   | (with_reducible exact LeO.none _)
   | (with_reducible refine LeO.ite ?_ ?_)
   | (with_reducible refine LeO.bind ?_ (fun _ => ?_))
   | exact ih0 _ _ _
   | exact ih1 _ _ _
   | exact ih2 _ _ _ _ _ _
   | exact word_Put.mono _ _
   | exact LeO.none _
   | refine LeO.ite ?_ ?_
   | refine LeO.bind ?_ (fun _ => ?_)
set_option maxHeartbeats 8000000 in
set_option maxRecDepth 100000 in
theorem word_Get.calls (k : Nat) (a0 : ByteArray) (a1 : Int) (r1 : Int) (r2 : Int) (r3 : Int) (w : World) (h : word_Get.f k a0 a1 = some (r1, r2, r3)) :
  Calls Tryd.prog 31 #[.string a0, .int .i64 a1] w fun e w' => e = .returned (.tuple #[.int .u64 r1, .int .i64 r2, .int .i64 r3]) ∧ Below w.heap.size w w' := by
 have HB := as_ (Below.refl w.heap.size w)
 have H : (if a1 < 0 then (word_Get.j0 k a0 a1 true) else (word_Get.j0 k a0 a1 (decide (a1 > (a0.size : Int))))) = some (r1, r2, r3) := h
 clear h
 have HC3 := Aside0.mk H
 clear H
 go_enter Tryd.func31, Tryd.ntmps31
 go_upto_region 1 with (fail)
 go_cut [19] (fun v19 wc => ∃ (kq : Nat) (x19_2 : Bool), v19 = .bool x19_2 ∧ Aside0 (word_Get.j0 kq a0 a1 x19_2 = some (r1, r2, r3)) ∧ Aside0 (kq ≤ k) ∧ Aside0 (Below w.heap.size w wc))
 case first =>
  have H := HC3.out
  clear HC3
  by_cases c4 : a1 < 0
  rotate_left
  ·rw [if_neg c4] at H
   have c4b0 : decide (a1 < 0) = false := decide_eq_false c4
   clear c4
   (first | rw [c4b0] | (simp only [i64_w, i32_w]; rw [c4b0]) | rw [c4b1] | skip)
   have H' := Aside0.mk H
   clear H
   go_wp2
   go_meet
   case rel => exact ⟨_, (decide (a1 > (a0.size : Int))), (by first | rfl | (simp; done) | (simp [*]; done)), H', ⟨by first | omega | exact Nat.le_refl _⟩, ⟨by repeat (first | (with_reducible first | exact HB.out | apply below_alloc | apply pw_below_drewN | apply below_drew1) | exact HB.out)⟩⟩
  rw [if_pos c4] at H
  have c4b0 : decide (a1 < 0) = true := decide_eq_true c4
  clear c4
  (first | rw [c4b0] | (simp only [i64_w, i32_w]; rw [c4b0]) | rw [c4b1] | skip)
  have H' := Aside0.mk H
  clear H
  go_wp2
  go_meet
  case rel => exact ⟨_, (true), (by first | rfl | (simp; done) | (simp [*]; done)), H', ⟨by first | omega | exact Nat.le_refl _⟩, ⟨by repeat (first | (with_reducible first | exact HB.out | apply below_alloc | apply pw_below_drewN | apply below_drew1) | exact HB.out)⟩⟩
 case rest =>
  clear HC3
  try clear p2
  try clear c3
  try clear c4
  try clear c4b0
  try clear c4b1
  obtain ⟨kq, x19_2, rfl, HA, HJ2, HB⟩ := hcut
  cases kq with
  | zero => exact absurd HA.out (by simp [word_Get.j0])
  | succ kj2 =>
   have H := HA.out
   clear HA
   simp only [word_Get.j0] at H
   by_cases c5 : x19_2 = true
   ·subst c5
    have H1 : (some (0, 0, 4)) = some (r1, r2, r3) := by rw [if_pos rfl] at H; exact H
    clear H
    have H := H1
    clear H1
    simp only [Option.some.injEq, Prod.mk.injEq] at H
    obtain ⟨rfl, rfl, rfl⟩ := H
    go_wp2
    go_ret3
    exact ⟨eW, by repeat (first | (with_reducible first | exact HB.out | apply below_alloc | apply pw_below_drewN | apply below_drew1) | exact HB.out)⟩
   replace c5 := Bool.eq_false_iff.mpr c5
   subst c5
   have H1 : (if a1 = (a0.size : Int) then (word_Get.j1 kj2 a0 a1 true) else (if 0 ≤ a1 then (if a1 < (a0.size : Int) then ((word_more.f (bt a0 a1)).bind fun t176 => (word_Get.j1 kj2 a0 a1 (decide ((wrap64 ((wrap64 ((a0.size : Int) - a1)) - 1)) < t176)))) else (none)) else (none))) = some (r1, r2, r3) := by rw [if_neg (show ¬ (false = true) by decide)] at H; exact H
   clear H
   have H := H1
   clear H1
   have HC6 := Aside0.mk H
   clear H
   go_upto_region 3 with (fail)
   go_cut [35] (fun v35 wc => ∃ (kq : Nat) (x35_5 : Bool), v35 = .bool x35_5 ∧ Aside0 (word_Get.j1 kq a0 a1 x35_5 = some (r1, r2, r3)) ∧ Aside0 (kq ≤ kj2) ∧ Aside0 (Below w.heap.size w wc))
   case first =>
    have H := HC6.out
    clear HC6
    by_cases c7 : a1 = (a0.size : Int)
    ·rw [if_pos c7] at H
     have c7b0 : (a1 == (a0.size : Int)) = true := beq_iff_eq.mpr c7
     have c7b1 : (a1 != (a0.size : Int)) = false := bne_eq_false_iff_eq.mpr c7
     clear c7
     (first | rw [c7b0] | (simp only [i64_w, i32_w]; rw [c7b0]) | rw [c7b1] | skip)
     have H' := Aside0.mk H
     clear H
     go_wp2
     go_meet
     case rel => exact ⟨_, (true), (by first | rfl | (simp; done) | (simp [*]; done)), H', ⟨by have := HJ2.out; first | omega | exact Nat.le_refl _⟩, ⟨by repeat (first | (with_reducible first | exact HB.out | apply below_alloc | apply pw_below_drewN | apply below_drew1) | exact HB.out)⟩⟩
    rw [if_neg c7] at H
    have c7b0 : (a1 == (a0.size : Int)) = false := beq_eq_false_iff_ne.mpr c7
    have c7b1 : (a1 != (a0.size : Int)) = true := bne_iff_ne.mpr c7
    (first | rw [c7b0] | (simp only [i64_w, i32_w]; rw [c7b0]) | rw [c7b1] | skip)
    by_cases c8 : 0 ≤ a1
    rotate_left
    ·rw [if_neg c8] at H
     exact absurd H (by simp)
    rw [if_pos c8] at H
    have c8b0 : decide (0 ≤ a1) = true := decide_eq_true c8
    clear c8
    by_cases c9 : a1 < (a0.size : Int)
    rotate_left
    ·rw [if_neg c9] at H
     exact absurd H (by simp)
    rw [if_pos c9] at H
    have c9b0 : decide (a1 < (a0.size : Int)) = true := decide_eq_true c9
    clear c9
    replace H := bM H
    obtain ⟨t176, A110, H⟩ := H
    replace H : (word_Get.j1 kj2 a0 a1 (decide ((wrap64 ((wrap64 ((a0.size : Int) - a1)) - 1)) < t176))) = some (r1, r2, r3) := H
    have A11 := Aside0.mk A110
    clear A110
    have H' := Aside0.mk H
    clear H
    have p10 : 0 ≤ (a1 : Int) := of_decide_eq_true aM
    have q10 : a1 < (a0.size : Int) := of_decide_eq_true aM
    have hx10 := bt_at a0 a1
    replace p10 := eq_true p10
    replace q10 := eq_true q10
    go_wp2_with (first | (go_at_call 44; (with_reducible refine (word_more.calls (bt a0 a1) t176 _ A11.out).mono ?_); rintro e w' ⟨rfl, ⟨nd, rfl⟩⟩))
    go_meet
    case rel => exact ⟨_, (decide ((wrap64 ((wrap64 ((a0.size : Int) - a1)) - 1)) < t176)), (by first | rfl | (simp; done) | (simp [*]; done)), H', ⟨by have := HJ2.out; first | omega | exact Nat.le_refl _⟩, ⟨by repeat (first | (with_reducible first | exact HB.out | apply below_alloc | apply pw_below_drewN | apply below_drew1) | exact HB.out)⟩⟩
   case rest =>
    clear HC6
    try clear p1
    try clear q1
    try clear hx1
    try clear p2
    try clear c3
    try clear c4
    try clear c4b0
    try clear c4b1
    try clear c5
    try clear p6
    try clear c7
    try clear c7b0
    try clear c7b1
    try clear c8
    try clear c8b0
    try clear c9
    try clear c9b0
    try clear p10
    try clear q10
    try clear hx10
    try clear p10
    try clear p2
    try clear q10
    obtain ⟨kq, x35_5, rfl, HA, HJ5, HB⟩ := hcut
    cases kq with
    | zero => exact absurd HA.out (by simp [word_Get.j1])
    | succ kj5 =>
     have H := HA.out
     clear HA
     simp only [word_Get.j1] at H
     by_cases c12 : x35_5 = true
     ·subst c12
      have H1 : (some (0, 0, 7)) = some (r1, r2, r3) := by rw [if_pos rfl] at H; exact H
      clear H
      have H := H1
      clear H1
      simp only [Option.some.injEq, Prod.mk.injEq] at H
      obtain ⟨rfl, rfl, rfl⟩ := H
      go_wp2
      go_ret3
      exact ⟨eW, by repeat (first | (with_reducible first | exact HB.out | apply below_alloc | apply pw_below_drewN | apply below_drew1) | exact HB.out)⟩
     replace c12 := Bool.eq_false_iff.mpr c12
     subst c12
     have H1 : (if 0 ≤ a1 then (if a1 < (a0.size : Int) then ((word_more.f (bt a0 a1)).bind fun t177 => (word_Get.l0 kj5 a0 a1 t177 0 t177 0)) else (none)) else (none)) = some (r1, r2, r3) := by rw [if_neg (show ¬ (false = true) by decide)] at H; exact H
     clear H
     have H := H1
     clear H1
     by_cases c13 : 0 ≤ a1
     rotate_left
     ·rw [if_neg c13] at H
      exact absurd H (by simp)
 
     rw [if_pos c13] at H
     have c13b0 : decide (0 ≤ a1) = true := decide_eq_true c13
     clear c13
     by_cases c14 : a1 < (a0.size : Int)
     rotate_left
     ·rw [if_neg c14] at H
      exact absurd H (by simp)
     rw [if_pos c14] at H
     have c14b0 : decide (a1 < (a0.size : Int)) = true := decide_eq_true c14
     clear c14
     replace H := bM H
     obtain ⟨t177, A160, H⟩ := H
     replace H : (word_Get.l0 kj5 a0 a1 t177 0 t177 0) = some (r1, r2, r3) := H
     have A16 := Aside0.mk A160
     clear A160
     have H' := Aside0.mk H
     clear H
     have p15 : 0 ≤ (a1 : Int) := of_decide_eq_true aM
     have q15 : a1 < (a0.size : Int) := of_decide_eq_true aM
     have hx15 := bt_at a0 a1
     replace p15 := eq_true p15
     replace q15 := eq_true q15
     go_wp2_with (first | ((with_reducible refine gate_callee (f := 44) rfl ?_); refine goesL_ (some 39) rfl rfl Tryd.func44 (by kernel_rfl) rfl #[.int .u8 (bt a0 a1)] rfl aO ?_; (with_reducible refine (word_more.calls (bt a0 a1) t177 _ A16.out).mono ?_); rintro e w' ⟨rfl, ⟨nd, rfl⟩⟩; refine ⟨_, rfl, ?_⟩))
     go_loopg [8, 41] kj5 (fun kq v8 v41 w' => ∃ (x8_3 : Int) (x41_3 : Int), v8 = .int .u64 x8_3 ∧ v41 = .int .i64 x41_3 ∧ Aside0 (word_Get.l0 kq a0 a1 t177 x8_3 t177 x41_3 = some (r1, r2, r3)) ∧ Aside0 (kq ≤ kj5) ∧ Aside0 (Below w.heap.size w w'))
     case atStart => exact ⟨(0), (0), (by first | rfl | (simp; done) | (simp [*]; done)), (by first | rfl | (simp; done) | (simp [*]; done)), H', ⟨Nat.le_refl _⟩, ⟨by repeat (first | (with_reducible first | exact HB.out | apply below_alloc | apply pw_below_drewN | apply below_drew1) | exact HB.out)⟩⟩
     case round =>
      clear H'
      try clear c1
      try clear p1
      try clear q1
      try clear hx1
      try clear p2
      try clear c3
      try clear c4
      try clear c4b0
      try clear c4b1
      try clear c5
      try clear p6
      try clear c7
      try clear c7b0
      try clear c7b1
      try clear c8
      try clear c8b0
      try clear c9
      try clear c9b0
      try clear p10
      try clear q10
      try clear hx10
      try clear c12
      try clear c13
      try clear c13b0
      try clear c14
      try clear c14b0
      try clear p15
      try clear q15
      try clear hx15
      try clear p1
      try clear p10
      try clear p15
      try clear p2
      try clear p6
      try clear q1
      try clear q10
      try clear q15
      obtain ⟨x8_3, x41_3, rfl, rfl, HA, HK3, HB⟩ := hrel
      cases gk with
      | zero => exact absurd HA.out (by simp [word_Get.l0])
      | succ k3 =>
       have H := HA.out
       clear HA
       simp only [word_Get.l0] at H
       by_cases c17 : x41_3 < t177
       ·rw [if_pos c17] at H
        have c17b0 : decide (x41_3 < t177) = true := decide_eq_true c17
        clear c17
        obtain ⟨ji18, hji18⟩ : ∃ j_ : Int, (wrap64 ((wrap64 (a1 + 1)) + x41_3)) = j_ := ⟨_, rfl⟩
        replace H : (if 0 ≤ (ji18) then (if (ji18) < (a0.size : Int) then (word_Get.l0 k3 a0 a1 t177 (Go.bits .or .u64 (IntKind.u64.wrap (x8_3 * 256)) (IntKind.u64.wrap (bt a0 (ji18)))) t177 (wrap64 (x41_3 + 1))) else (none)) else (none)) = some (r1, r2, r3) := by first | (rw [hji18] at H; exact H) | (simp only [hji18] at H ⊢; exact H)
        have hji18w : (IntKind.i64.wrap ((wrap64 (a1 + 1)) + x41_3)) = ji18 := (i64_w _).trans hji18
        by_cases c19 : 0 ≤ (ji18)
        rotate_left
        ·rw [if_neg c19] at H
         exact absurd H (by simp)
        rw [if_pos c19] at H
        have c19b0 : decide (0 ≤ (ji18)) = true := decide_eq_true c19
        clear c19
        by_cases c20 : (ji18) < (a0.size : Int)
        rotate_left
        ·rw [if_neg c20] at H
         exact absurd H (by simp)
        rw [if_pos c20] at H
        have c20b0 : decide ((ji18) < (a0.size : Int)) = true := decide_eq_true c20
        clear c20
        have H' := Aside0.mk H
        clear H
        have p21 : 0 ≤ ((ji18) : Int) := of_decide_eq_true aM
        have q21 : (ji18) < (a0.size : Int) := of_decide_eq_true aM
        have hx21 := bt_at a0 (ji18)
        replace p21 := eq_true p21
        replace q21 := eq_true q21
        go_wp2
        go_roundg k3
        case measure => have := HJ2.out; have := HJ5.out; have := HK3.out; omega
        case rel => exact ⟨(Go.bits .or .u64 (IntKind.u64.wrap (x8_3 * 256)) (IntKind.u64.wrap (bt a0 (ji18)))), (wrap64 (x41_3 + 1)), (by first | rfl | (simp; done) | (simp only [← hji18] <;> (first | rfl | simp)) | (simp [*]; done)), (by first | rfl | (simp; done) | (simp [*]; done)), H', ⟨by have := HJ2.out; have := HJ5.out; have := HK3.out; omega⟩, ⟨by repeat (first | (with_reducible first | exact HB.out | apply below_alloc | apply pw_below_drewN | apply below_drew1) | exact HB.out)⟩⟩
       rw [if_neg c17] at H
       have c17b0 : decide (x41_3 < t177) = false := decide_eq_false c17
       clear c17
       by_cases c22 : 0 ≤ a1
       rotate_left
       ·rw [if_neg c22] at H
        exact absurd H (by simp)
       rw [if_pos c22] at H
       have c22b0 : decide (0 ≤ a1) = true := decide_eq_true c22
       clear c22
       by_cases c23 : a1 < (a0.size : Int)
       rotate_left
       ·rw [if_neg c23] at H
        exact absurd H (by simp)
       rw [if_pos c23] at H
       have c23b0 : decide (a1 < (a0.size : Int)) = true := decide_eq_true c23
       clear c23
       by_cases c25 : t177 = 0
       ·rw [if_pos c25] at H
        have c25b0 : (t177 == 0) = true := beq_iff_eq.mpr c25
        have c25b1 : (t177 != 0) = false := bne_eq_false_iff_eq.mpr c25
        clear c25
        replace H := bM H
        obtain ⟨t178, A260, H⟩ := H
        replace H : (if a1 ≤ (wrap64 ((wrap64 (a1 + 1)) + t177)) then (if (wrap64 ((wrap64 (a1 + 1)) + t177)) ≤ (a0.size : Int) then (if t178.toList = (a0.extract (a1 : Int).toNat ((wrap64 ((wrap64 (a1 + 1)) + t177)) : Int).toNat).toList then (some (IntKind.u64.wrap (bt a0 a1), wrap64 ((wrap64 (a1 + 1)) + t177), 0)) else (some (0, 0, 3))) else (none)) else (none)) = some (r1, r2, r3) := H
        have A26 := Aside0.mk A260
        clear A260
        have c27b0 := eq_true (of_decide_eq_true aM : 0 ≤ a1)
        by_cases c28 : a1 ≤ (wrap64 ((wrap64 (a1 + 1)) + t177))
        rotate_left
        ·rw [if_neg c28] at H
         exact absurd H (by simp)
        rw [if_pos c28] at H
        have c28b0 := eq_true c28
        have c28b1 : decide (a1 ≤ (wrap64 ((wrap64 (a1 + 1)) + t177))) = true := decide_eq_true c28
        by_cases c29 : (wrap64 ((wrap64 (a1 + 1)) + t177)) ≤ (a0.size : Int)
        rotate_left
        ·rw [if_neg c29] at H
         exact absurd H (by simp)
        rw [if_pos c29] at H
        have c29b0 := eq_true c29
        have c29b1 : decide ((wrap64 ((wrap64 (a1 + 1)) + t177)) ≤ (a0.size : Int)) = true := decide_eq_true c29
        obtain ⟨js30, hjs30⟩ : ∃ j_ : ByteArray, (a0.extract (a1 : Int).toNat ((wrap64 ((wrap64 (a1 + 1)) + t177)) : Int).toNat) = j_ := ⟨_, rfl⟩
        replace H : (if t178.toList = (js30).toList then (some (IntKind.u64.wrap (bt a0 a1), wrap64 ((wrap64 (a1 + 1)) + t177), 0)) else (some (0, 0, 3))) = some (r1, r2, r3) := by first | (rw [hjs30] at H; exact H) | (simp only [hjs30] at H ⊢; exact H)
        (try rw [hjs30] at A26)
        by_cases c31 : t178.toList = (js30).toList
        rotate_left
        ·rw [if_neg c31] at H
         have c31b0 : (t178.toList == (js30).toList) = false := beq_eq_false_iff_ne.mpr c31
         have c31b1 : (t178.toList != (js30).toList) = true := bne_iff_ne.mpr c31
         simp only [Option.some.injEq, Prod.mk.injEq] at H
         obtain ⟨rfl, rfl, rfl⟩ := H
         have p24 : 0 ≤ (a1 : Int) := of_decide_eq_true aM
         have q24 : a1 < (a0.size : Int) := of_decide_eq_true aM
         have hx24 := bt_at a0 a1
         replace p24 := eq_true p24
         replace q24 := eq_true q24
         try go_wp2
         replace HB := as_ (below_drew1 HB.out)
         refine start_ (n := 7) (S := fun w' => True) (ds := []) #[ff, ff, ff, ff, ff, ff, ff] (by kernel_rfl) rfl rfl trivial (fun hHeld => ?_)
         generalize wr.drew = w34 at HB hHeld ⊢
         refine pure_ (i := 0) (N := some 82) (v := ?_) (a' := ?_) #[tt, ff, ff, ff, ff, ff, ff] rfl rfl (by kernel_rfl) (fun _ _ _ h => h) (Or.inl ⟨by rfl, ?_⟩) ?_ ?_
         rotate_left
         ·intro w'
          go_simp
          with_reducible rfl
         rotate_left
         ·exact aP
         refine pure_ (i := 2) (N := some 84) (v := ?_) (a' := ?_) #[tt, ff, tt, ff, ff, ff, ff] rfl rfl (by kernel_rfl) (fun _ _ _ h => h) (Or.inl ⟨by rfl, ?_⟩) ?_ ?_
         rotate_left
         ·intro w'
          go_simp
          with_reducible rfl
         rotate_left
         ·exact aP
         refine pure_ (i := 3) (N := some 85) (v := ?_) (a' := ?_) #[tt, ff, tt, tt, ff, ff, ff] rfl rfl (by kernel_rfl) (fun _ _ _ h => h) (Or.inl ⟨by rfl, ?_⟩) ?_ ?_
         rotate_left
         ·intro w'
          go_simp
          with_reducible rfl
         rotate_left
         ·exact aP
         refine pure_ (i := 4) (N := some 86) (v := ?_) (a' := ?_) #[tt, ff, tt, tt, tt, ff, ff] rfl rfl (by kernel_rfl) (fun _ _ _ h => h) (Or.inl ⟨by rfl, ?_⟩) ?_ ?_
         rotate_left
         ·intro w'
          go_simp
          with_reducible rfl
         rotate_left
         ·exact aP
         refine pure_ (i := 5) (N := some 87) (v := ?_) (a' := ?_) #[tt, ff, tt, tt, tt, tt, ff] rfl rfl (by kernel_rfl) (fun _ _ _ h => h) (Or.inl ⟨by rfl, ?_⟩) ?_ ?_
         rotate_left
         ·intro w'
          go_simp
          with_reducible rfl
         rotate_left
         ·exact aP
         refine one_ (i := 1) (N := some 83) #[tt, tt, tt, tt, tt, tt, ff] rfl rfl (by kernel_rfl) (by decide) (fun K hK => ?_)
         refine goes_ Tryd.func26 (by kernel_rfl) rfl #[.int .u64 (IntKind.u64.wrap (bt a0 a1))] (by rfl) rfl rfl aO ?_
         with_reducible refine (word_Put.calls k3 (IntKind.u64.wrap (bt a0 a1)) t178 _ A26.out).mono ?_
         rintro e w35 ⟨rfl, hb⟩
         refine ⟨_, rfl, ?_⟩
         replace HB := as_ (below_step bA hb)
         (try clear hb)
         (try clear hb2)
         (try clear hk)
         (try clear hi)
         refine hK.out _ _ trivial (fun hHeld => ?_)
         clear hK K
         refine norm_ (a' := ?_) ?_ ?_
         rotate_left
         ·show Act.put _ (some 83) _ = _
          simp only [Act.put, List.setIfInBounds_toArray, List.set_cons_zero, List.set_cons_succ, i64_w, i32_w]
          rfl
         refine pure_ (i := 6) (N := some 88) (v := ?_) (a' := ?_) #[tt, tt, tt, tt, tt, tt, tt] rfl rfl (by kernel_rfl) (fun _ _ _ h => h) (Or.inl ⟨by rfl, ?_⟩) ?_ ?_
         rotate_left
         ·intro w'
          go_simp
          with_reducible rfl
         rotate_left
         ·exact aP
         refine done_ (by kernel_rfl) ?_
         try go_wp2
         go_ret3
         exact ⟨by first | rfl | (simp [errW_none, errW_some] <;> rfl) | (simp only [← hjs30]; first | rfl | (simp [errW_none, errW_some] <;> rfl)) | (simp [*, errW_none, errW_some] <;> rfl), by repeat (first | (with_reducible first | exact HB.out | apply below_alloc | apply pw_below_drewN | apply below_drew1) | exact HB.out)⟩
        rw [if_pos c31] at H
        have c31b0 : (t178.toList == (js30).toList) = true := beq_iff_eq.mpr c31
        have c31b1 : (t178.toList != (js30).toList) = false := bne_eq_false_iff_eq.mpr c31
        clear c31
        simp only [Option.some.injEq, Prod.mk.injEq] at H
        obtain ⟨rfl, rfl, rfl⟩ := H
        have p24 : 0 ≤ (a1 : Int) := of_decide_eq_true aM
        have q24 : a1 < (a0.size : Int) := of_decide_eq_true aM
        have hx24 := bt_at a0 a1
        replace p24 := eq_true p24
        replace q24 := eq_true q24
        try go_wp2
        replace HB := as_ (below_drew1 HB.out)
        refine start_ (n := 7) (S := fun w' => True) (ds := []) #[ff, ff, ff, ff, ff, ff, ff] (by kernel_rfl) rfl rfl trivial (fun hHeld => ?_)
        generalize wr.drew = w32 at HB hHeld ⊢
        refine pure_ (i := 0) (N := some 82) (v := ?_) (a' := ?_) #[tt, ff, ff, ff, ff, ff, ff] rfl rfl (by kernel_rfl) (fun _ _ _ h => h) (Or.inl ⟨by rfl, ?_⟩) ?_ ?_
        rotate_left
        ·intro w'
         go_simp
         with_reducible rfl
        rotate_left
        ·exact aP
        refine pure_ (i := 2) (N := some 84) (v := ?_) (a' := ?_) #[tt, ff, tt, ff, ff, ff, ff] rfl rfl (by kernel_rfl) (fun _ _ _ h => h) (Or.inl ⟨by rfl, ?_⟩) ?_ ?_
        rotate_left
        ·intro w'
         go_simp
         with_reducible rfl
        rotate_left
        ·exact aP
        refine pure_ (i := 3) (N := some 85) (v := ?_) (a' := ?_) #[tt, ff, tt, tt, ff, ff, ff] rfl rfl (by kernel_rfl) (fun _ _ _ h => h) (Or.inl ⟨by rfl, ?_⟩) ?_ ?_
        rotate_left
        ·intro w'
         go_simp
         with_reducible rfl
        rotate_left
        ·exact aP
        refine pure_ (i := 4) (N := some 86) (v := ?_) (a' := ?_) #[tt, ff, tt, tt, tt, ff, ff] rfl rfl (by kernel_rfl) (fun _ _ _ h => h) (Or.inl ⟨by rfl, ?_⟩) ?_ ?_
        rotate_left
        ·intro w'
         go_simp
         with_reducible rfl
        rotate_left
        ·exact aP
        refine pure_ (i := 5) (N := some 87) (v := ?_) (a' := ?_) #[tt, ff, tt, tt, tt, tt, ff] rfl rfl (by kernel_rfl) (fun _ _ _ h => h) (Or.inl ⟨by rfl, ?_⟩) ?_ ?_
        rotate_left
        ·intro w'
         go_simp
         with_reducible rfl
        rotate_left
        ·exact aP
        refine one_ (i := 1) (N := some 83) #[tt, tt, tt, tt, tt, tt, ff] rfl rfl (by kernel_rfl) (by decide) (fun K hK => ?_)
        refine goes_ Tryd.func26 (by kernel_rfl) rfl #[.int .u64 (IntKind.u64.wrap (bt a0 a1))] (by rfl) rfl rfl aO ?_
        with_reducible refine (word_Put.calls k3 (IntKind.u64.wrap (bt a0 a1)) t178 _ A26.out).mono ?_
        rintro e w33 ⟨rfl, hb⟩
        refine ⟨_, rfl, ?_⟩
        replace HB := as_ (below_step bA hb)
        (try clear hb)
        (try clear hb2)
        (try clear hk)
        (try clear hi)
        refine hK.out _ _ trivial (fun hHeld => ?_)
        clear hK K
        refine norm_ (a' := ?_) ?_ ?_
        rotate_left
        ·show Act.put _ (some 83) _ = _
         simp only [Act.put, List.setIfInBounds_toArray, List.set_cons_zero, List.set_cons_succ, i64_w, i32_w]
         rfl
        refine pure_ (i := 6) (N := some 88) (v := ?_) (a' := ?_) #[tt, tt, tt, tt, tt, tt, tt] rfl rfl (by kernel_rfl) (fun _ _ _ h => h) (Or.inl ⟨by rfl, ?_⟩) ?_ ?_
        rotate_left
        ·intro w'
         go_simp
         with_reducible rfl
        rotate_left
        ·exact aP
        refine done_ (by kernel_rfl) ?_
        try go_wp2
        go_ret3
        exact ⟨by first | rfl | (simp [errW_none, errW_some] <;> rfl) | (simp only [← hjs30]; first | rfl | (simp [errW_none, errW_some] <;> rfl)) | (simp [*, errW_none, errW_some] <;> rfl), by repeat (first | (with_reducible first | exact HB.out | apply below_alloc | apply pw_below_drewN | apply below_drew1) | exact HB.out)⟩
       rw [if_neg c25] at H
       have c25b0 : (t177 == 0) = false := beq_eq_false_iff_ne.mpr c25
       have c25b1 : (t177 != 0) = true := bne_iff_ne.mpr c25
       by_cases c36 : t177 = 1
       ·rw [if_pos c36] at H
        have c36b0 : (t177 == 1) = true := beq_iff_eq.mpr c36
        have c36b1 : (t177 != 1) = false := bne_eq_false_iff_eq.mpr c36
        clear c36
        replace H := bM H
        obtain ⟨t179, A370, H⟩ := H
        replace H : (if a1 ≤ (wrap64 ((wrap64 (a1 + 1)) + t177)) then (if (wrap64 ((wrap64 (a1 + 1)) + t177)) ≤ (a0.size : Int) then (if t179.toList = (a0.extract (a1 : Int).toNat ((wrap64 ((wrap64 (a1 + 1)) + t177)) : Int).toNat).toList then (some (IntKind.u64.wrap (x8_3 + (240 + ((((bt a0 a1) - 241) % 256) * 256))), wrap64 ((wrap64 (a1 + 1)) + t177), 0)) else (some (0, 0, 3))) else (none)) else (none)) = some (r1, r2, r3) := H
        have A37 := Aside0.mk A370
        clear A370
        have c38b0 := eq_true (of_decide_eq_true aM : 0 ≤ a1)
        by_cases c39 : a1 ≤ (wrap64 ((wrap64 (a1 + 1)) + t177))
        rotate_left
        ·rw [if_neg c39] at H
         exact absurd H (by simp)
        rw [if_pos c39] at H
        have c39b0 := eq_true c39
        have c39b1 : decide (a1 ≤ (wrap64 ((wrap64 (a1 + 1)) + t177))) = true := decide_eq_true c39
        by_cases c40 : (wrap64 ((wrap64 (a1 + 1)) + t177)) ≤ (a0.size : Int)
        rotate_left
        ·rw [if_neg c40] at H
         exact absurd H (by simp)
        rw [if_pos c40] at H
        have c40b0 := eq_true c40
        have c40b1 : decide ((wrap64 ((wrap64 (a1 + 1)) + t177)) ≤ (a0.size : Int)) = true := decide_eq_true c40
        obtain ⟨js41, hjs41⟩ : ∃ j_ : ByteArray, (a0.extract (a1 : Int).toNat ((wrap64 ((wrap64 (a1 + 1)) + t177)) : Int).toNat) = j_ := ⟨_, rfl⟩
        replace H : (if t179.toList = (js41).toList then (some (IntKind.u64.wrap (x8_3 + (240 + ((((bt a0 a1) - 241) % 256) * 256))), wrap64 ((wrap64 (a1 + 1)) + t177), 0)) else (some (0, 0, 3))) = some (r1, r2, r3) := by first | (rw [hjs41] at H; exact H) | (simp only [hjs41] at H ⊢; exact H)
        (try rw [hjs41] at A37)
        by_cases c42 : t179.toList = (js41).toList
        rotate_left
        ·rw [if_neg c42] at H
         have c42b0 : (t179.toList == (js41).toList) = false := beq_eq_false_iff_ne.mpr c42
         have c42b1 : (t179.toList != (js41).toList) = true := bne_iff_ne.mpr c42
         simp only [Option.some.injEq, Prod.mk.injEq] at H
         obtain ⟨rfl, rfl, rfl⟩ := H
         have p24 : 0 ≤ (a1 : Int) := of_decide_eq_true aM
         have q24 : a1 < (a0.size : Int) := of_decide_eq_true aM
         have hx24 := bt_at a0 a1
         replace p24 := eq_true p24
         replace q24 := eq_true q24
         try go_wp2
         replace HB := as_ (below_drew1 HB.out)
         refine start_ (n := 7) (S := fun w' => True) (ds := []) #[ff, ff, ff, ff, ff, ff, ff] (by kernel_rfl) rfl rfl trivial (fun hHeld => ?_)
         generalize wr.drew = w45 at HB hHeld ⊢
         refine pure_ (i := 0) (N := some 82) (v := ?_) (a' := ?_) #[tt, ff, ff, ff, ff, ff, ff] rfl rfl (by kernel_rfl) (fun _ _ _ h => h) (Or.inl ⟨by rfl, ?_⟩) ?_ ?_
         rotate_left
         ·intro w'
          go_simp
          with_reducible rfl
         rotate_left
         ·exact aP
         refine pure_ (i := 2) (N := some 84) (v := ?_) (a' := ?_) #[tt, ff, tt, ff, ff, ff, ff] rfl rfl (by kernel_rfl) (fun _ _ _ h => h) (Or.inl ⟨by rfl, ?_⟩) ?_ ?_
         rotate_left
         ·intro w'
          go_simp
          with_reducible rfl
         rotate_left
         ·exact aP
         refine pure_ (i := 3) (N := some 85) (v := ?_) (a' := ?_) #[tt, ff, tt, tt, ff, ff, ff] rfl rfl (by kernel_rfl) (fun _ _ _ h => h) (Or.inl ⟨by rfl, ?_⟩) ?_ ?_
         rotate_left
         ·intro w'
          go_simp
          with_reducible rfl
         rotate_left
         ·exact aP
         refine pure_ (i := 4) (N := some 86) (v := ?_) (a' := ?_) #[tt, ff, tt, tt, tt, ff, ff] rfl rfl (by kernel_rfl) (fun _ _ _ h => h) (Or.inl ⟨by rfl, ?_⟩) ?_ ?_
         rotate_left
         ·intro w'
          go_simp
          with_reducible rfl
         rotate_left
         ·exact aP
         refine pure_ (i := 5) (N := some 87) (v := ?_) (a' := ?_) #[tt, ff, tt, tt, tt, tt, ff] rfl rfl (by kernel_rfl) (fun _ _ _ h => h) (Or.inl ⟨by rfl, ?_⟩) ?_ ?_
         rotate_left
         ·intro w'
          go_simp
          with_reducible rfl
         rotate_left
         ·exact aP
         refine one_ (i := 1) (N := some 83) #[tt, tt, tt, tt, tt, tt, ff] rfl rfl (by kernel_rfl) (by decide) (fun K hK => ?_)
         refine goes_ Tryd.func26 (by kernel_rfl) rfl #[.int .u64 (IntKind.u64.wrap (x8_3 + (240 + ((((bt a0 a1) - 241) % 256) * 256))))] (by rfl) rfl rfl aO ?_
         with_reducible refine (word_Put.calls k3 (IntKind.u64.wrap (x8_3 + (240 + ((((bt a0 a1) - 241) % 256) * 256)))) t179 _ A37.out).mono ?_
         rintro e w46 ⟨rfl, hb⟩
         refine ⟨_, rfl, ?_⟩
         replace HB := as_ (below_step bA hb)
         (try clear hb)
         (try clear hb2)
         (try clear hk)
         (try clear hi)
         refine hK.out _ _ trivial (fun hHeld => ?_)
         clear hK K
         refine norm_ (a' := ?_) ?_ ?_
         rotate_left
         ·show Act.put _ (some 83) _ = _
          simp only [Act.put, List.setIfInBounds_toArray, List.set_cons_zero, List.set_cons_succ, i64_w, i32_w]
          rfl
         refine pure_ (i := 6) (N := some 88) (v := ?_) (a' := ?_) #[tt, tt, tt, tt, tt, tt, tt] rfl rfl (by kernel_rfl) (fun _ _ _ h => h) (Or.inl ⟨by rfl, ?_⟩) ?_ ?_
         rotate_left
         ·intro w'
          go_simp
          with_reducible rfl
         rotate_left
         ·exact aP
         refine done_ (by kernel_rfl) ?_
         try go_wp2
         go_ret3
         exact ⟨by first | rfl | (simp [errW_none, errW_some] <;> rfl) | (simp only [← hjs41]; first | rfl | (simp [errW_none, errW_some] <;> rfl)) | (simp [*, errW_none, errW_some] <;> rfl), by repeat (first | (with_reducible first | exact HB.out | apply below_alloc | apply pw_below_drewN | apply below_drew1) | exact HB.out)⟩
        rw [if_pos c42] at H
        have c42b0 : (t179.toList == (js41).toList) = true := beq_iff_eq.mpr c42
        have c42b1 : (t179.toList != (js41).toList) = false := bne_eq_false_iff_eq.mpr c42
        clear c42
        simp only [Option.some.injEq, Prod.mk.injEq] at H
        obtain ⟨rfl, rfl, rfl⟩ := H
        have p24 : 0 ≤ (a1 : Int) := of_decide_eq_true aM
        have q24 : a1 < (a0.size : Int) := of_decide_eq_true aM
        have hx24 := bt_at a0 a1
        replace p24 := eq_true p24
        replace q24 := eq_true q24
        try go_wp2
        replace HB := as_ (below_drew1 HB.out)
        refine start_ (n := 7) (S := fun w' => True) (ds := []) #[ff, ff, ff, ff, ff, ff, ff] (by kernel_rfl) rfl rfl trivial (fun hHeld => ?_)
        generalize wr.drew = w43 at HB hHeld ⊢
        refine pure_ (i := 0) (N := some 82) (v := ?_) (a' := ?_) #[tt, ff, ff, ff, ff, ff, ff] rfl rfl (by kernel_rfl) (fun _ _ _ h => h) (Or.inl ⟨by rfl, ?_⟩) ?_ ?_
        rotate_left
        ·intro w'
         go_simp
         with_reducible rfl
        rotate_left
        ·exact aP
        refine pure_ (i := 2) (N := some 84) (v := ?_) (a' := ?_) #[tt, ff, tt, ff, ff, ff, ff] rfl rfl (by kernel_rfl) (fun _ _ _ h => h) (Or.inl ⟨by rfl, ?_⟩) ?_ ?_
        rotate_left
        ·intro w'
         go_simp
         with_reducible rfl
        rotate_left
        ·exact aP
        refine pure_ (i := 3) (N := some 85) (v := ?_) (a' := ?_) #[tt, ff, tt, tt, ff, ff, ff] rfl rfl (by kernel_rfl) (fun _ _ _ h => h) (Or.inl ⟨by rfl, ?_⟩) ?_ ?_
        rotate_left
        ·intro w'
         go_simp
         with_reducible rfl
        rotate_left
        ·exact aP
        refine pure_ (i := 4) (N := some 86) (v := ?_) (a' := ?_) #[tt, ff, tt, tt, tt, ff, ff] rfl rfl (by kernel_rfl) (fun _ _ _ h => h) (Or.inl ⟨by rfl, ?_⟩) ?_ ?_
        rotate_left
        ·intro w'
         go_simp
         with_reducible rfl
        rotate_left
        ·exact aP
        refine pure_ (i := 5) (N := some 87) (v := ?_) (a' := ?_) #[tt, ff, tt, tt, tt, tt, ff] rfl rfl (by kernel_rfl) (fun _ _ _ h => h) (Or.inl ⟨by rfl, ?_⟩) ?_ ?_
        rotate_left
        ·intro w'
         go_simp
         with_reducible rfl
        rotate_left
        ·exact aP
        refine one_ (i := 1) (N := some 83) #[tt, tt, tt, tt, tt, tt, ff] rfl rfl (by kernel_rfl) (by decide) (fun K hK => ?_)
        refine goes_ Tryd.func26 (by kernel_rfl) rfl #[.int .u64 (IntKind.u64.wrap (x8_3 + (240 + ((((bt a0 a1) - 241) % 256) * 256))))] (by rfl) rfl rfl aO ?_
        with_reducible refine (word_Put.calls k3 (IntKind.u64.wrap (x8_3 + (240 + ((((bt a0 a1) - 241) % 256) * 256)))) t179 _ A37.out).mono ?_
        rintro e w44 ⟨rfl, hb⟩
        refine ⟨_, rfl, ?_⟩
        replace HB := as_ (below_step bA hb)
        (try clear hb)
        (try clear hb2)
        (try clear hk)
        (try clear hi)
        refine hK.out _ _ trivial (fun hHeld => ?_)
        clear hK K
        refine norm_ (a' := ?_) ?_ ?_
        rotate_left
        ·show Act.put _ (some 83) _ = _
         simp only [Act.put, List.setIfInBounds_toArray, List.set_cons_zero, List.set_cons_succ, i64_w, i32_w]
         rfl
        refine pure_ (i := 6) (N := some 88) (v := ?_) (a' := ?_) #[tt, tt, tt, tt, tt, tt, tt] rfl rfl (by kernel_rfl) (fun _ _ _ h => h) (Or.inl ⟨by rfl, ?_⟩) ?_ ?_
        rotate_left
        ·intro w'
         go_simp
         with_reducible rfl
        rotate_left
        ·exact aP
        refine done_ (by kernel_rfl) ?_
        try go_wp2
        go_ret3
        exact ⟨by first | rfl | (simp [errW_none, errW_some] <;> rfl) | (simp only [← hjs41]; first | rfl | (simp [errW_none, errW_some] <;> rfl)) | (simp [*, errW_none, errW_some] <;> rfl), by repeat (first | (with_reducible first | exact HB.out | apply below_alloc | apply pw_below_drewN | apply below_drew1) | exact HB.out)⟩
       rw [if_neg c36] at H
       have c36b0 : (t177 == 1) = false := beq_eq_false_iff_ne.mpr c36
       have c36b1 : (t177 != 1) = true := bne_iff_ne.mpr c36
       by_cases c47 : t177 = 2
       rotate_left
       ·rw [if_neg c47] at H
        have c47b0 : (t177 == 2) = false := beq_eq_false_iff_ne.mpr c47
        have c47b1 : (t177 != 2) = true := bne_iff_ne.mpr c47
        replace H := bM H
        obtain ⟨t181, A580, H⟩ := H
        replace H : (if a1 ≤ (wrap64 ((wrap64 (a1 + 1)) + t177)) then (if (wrap64 ((wrap64 (a1 + 1)) + t177)) ≤ (a0.size : Int) then (if t181.toList = (a0.extract (a1 : Int).toNat ((wrap64 ((wrap64 (a1 + 1)) + t177)) : Int).toNat).toList then (some (x8_3, wrap64 ((wrap64 (a1 + 1)) + t177), 0)) else (some (0, 0, 3))) else (none)) else (none)) = some (r1, r2, r3) := H
        have A58 := Aside0.mk A580
        clear A580
        have c59b0 := eq_true (of_decide_eq_true aM : 0 ≤ a1)
        by_cases c60 : a1 ≤ (wrap64 ((wrap64 (a1 + 1)) + t177))
        rotate_left
        ·rw [if_neg c60] at H
         exact absurd H (by simp)
        rw [if_pos c60] at H
        have c60b0 := eq_true c60
        have c60b1 : decide (a1 ≤ (wrap64 ((wrap64 (a1 + 1)) + t177))) = true := decide_eq_true c60
        by_cases c61 : (wrap64 ((wrap64 (a1 + 1)) + t177)) ≤ (a0.size : Int)
        rotate_left
        ·rw [if_neg c61] at H
         exact absurd H (by simp)
        rw [if_pos c61] at H
        have c61b0 := eq_true c61
        have c61b1 : decide ((wrap64 ((wrap64 (a1 + 1)) + t177)) ≤ (a0.size : Int)) = true := decide_eq_true c61
        obtain ⟨js62, hjs62⟩ : ∃ j_ : ByteArray, (a0.extract (a1 : Int).toNat ((wrap64 ((wrap64 (a1 + 1)) + t177)) : Int).toNat) = j_ := ⟨_, rfl⟩
        replace H : (if t181.toList = (js62).toList then (some (x8_3, wrap64 ((wrap64 (a1 + 1)) + t177), 0)) else (some (0, 0, 3))) = some (r1, r2, r3) := by first | (rw [hjs62] at H; exact H) | (simp only [hjs62] at H ⊢; exact H)
        (try rw [hjs62] at A58)
        by_cases c63 : t181.toList = (js62).toList
        rotate_left
        ·rw [if_neg c63] at H
         have c63b0 : (t181.toList == (js62).toList) = false := beq_eq_false_iff_ne.mpr c63
         have c63b1 : (t181.toList != (js62).toList) = true := bne_iff_ne.mpr c63
         simp only [Option.some.injEq, Prod.mk.injEq] at H
         obtain ⟨rfl, rfl, rfl⟩ := H
         have p24 : 0 ≤ (a1 : Int) := of_decide_eq_true aM
         have q24 : a1 < (a0.size : Int) := of_decide_eq_true aM
         have hx24 := bt_at a0 a1
         replace p24 := eq_true p24
         replace q24 := eq_true q24
         try go_wp2
         replace HB := as_ (below_drew1 HB.out)
         refine start_ (n := 7) (S := fun w' => True) (ds := []) #[ff, ff, ff, ff, ff, ff, ff] (by kernel_rfl) rfl rfl trivial (fun hHeld => ?_)
         generalize wr.drew = w66 at HB hHeld ⊢
         refine pure_ (i := 0) (N := some 82) (v := ?_) (a' := ?_) #[tt, ff, ff, ff, ff, ff, ff] rfl rfl (by kernel_rfl) (fun _ _ _ h => h) (Or.inl ⟨by rfl, ?_⟩) ?_ ?_
         rotate_left
         ·intro w'
          go_simp
          with_reducible rfl
         rotate_left
         ·exact aP
         refine pure_ (i := 2) (N := some 84) (v := ?_) (a' := ?_) #[tt, ff, tt, ff, ff, ff, ff] rfl rfl (by kernel_rfl) (fun _ _ _ h => h) (Or.inl ⟨by rfl, ?_⟩) ?_ ?_
         rotate_left
         ·intro w'
          go_simp
          with_reducible rfl
         rotate_left
         ·exact aP
         refine pure_ (i := 3) (N := some 85) (v := ?_) (a' := ?_) #[tt, ff, tt, tt, ff, ff, ff] rfl rfl (by kernel_rfl) (fun _ _ _ h => h) (Or.inl ⟨by rfl, ?_⟩) ?_ ?_
         rotate_left
         ·intro w'
          go_simp
          with_reducible rfl
         rotate_left
         ·exact aP
         refine pure_ (i := 4) (N := some 86) (v := ?_) (a' := ?_) #[tt, ff, tt, tt, tt, ff, ff] rfl rfl (by kernel_rfl) (fun _ _ _ h => h) (Or.inl ⟨by rfl, ?_⟩) ?_ ?_
         rotate_left
         ·intro w'
          go_simp
          with_reducible rfl
         rotate_left
         ·exact aP
         refine pure_ (i := 5) (N := some 87) (v := ?_) (a' := ?_) #[tt, ff, tt, tt, tt, tt, ff] rfl rfl (by kernel_rfl) (fun _ _ _ h => h) (Or.inl ⟨by rfl, ?_⟩) ?_ ?_
         rotate_left
         ·intro w'
          go_simp
          with_reducible rfl
         rotate_left
         ·exact aP
         refine one_ (i := 1) (N := some 83) #[tt, tt, tt, tt, tt, tt, ff] rfl rfl (by kernel_rfl) (by decide) (fun K hK => ?_)
         refine goes_ Tryd.func26 (by kernel_rfl) rfl #[.int .u64 x8_3] (by rfl) rfl rfl aO ?_
         with_reducible refine (word_Put.calls k3 x8_3 t181 _ A58.out).mono ?_
         rintro e w67 ⟨rfl, hb⟩
         refine ⟨_, rfl, ?_⟩
         replace HB := as_ (below_step bA hb)
         (try clear hb)
         (try clear hb2)
         (try clear hk)
         (try clear hi)
         refine hK.out _ _ trivial (fun hHeld => ?_)
         clear hK K
         refine norm_ (a' := ?_) ?_ ?_
         rotate_left
         ·show Act.put _ (some 83) _ = _
          simp only [Act.put, List.setIfInBounds_toArray, List.set_cons_zero, List.set_cons_succ, i64_w, i32_w]
          rfl
         refine pure_ (i := 6) (N := some 88) (v := ?_) (a' := ?_) #[tt, tt, tt, tt, tt, tt, tt] rfl rfl (by kernel_rfl) (fun _ _ _ h => h) (Or.inl ⟨by rfl, ?_⟩) ?_ ?_
         rotate_left
         ·intro w'
          go_simp
          with_reducible rfl
         rotate_left
         ·exact aP
         refine done_ (by kernel_rfl) ?_
         try go_wp2
         go_ret3
         exact ⟨by first | rfl | (simp [errW_none, errW_some] <;> rfl) | (simp only [← hjs62]; first | rfl | (simp [errW_none, errW_some] <;> rfl)) | (simp [*, errW_none, errW_some] <;> rfl), by repeat (first | (with_reducible first | exact HB.out | apply below_alloc | apply pw_below_drewN | apply below_drew1) | exact HB.out)⟩
        rw [if_pos c63] at H
        have c63b0 : (t181.toList == (js62).toList) = true := beq_iff_eq.mpr c63
        have c63b1 : (t181.toList != (js62).toList) = false := bne_eq_false_iff_eq.mpr c63
        clear c63
        simp only [Option.some.injEq, Prod.mk.injEq] at H
        obtain ⟨rfl, rfl, rfl⟩ := H
        have p24 : 0 ≤ (a1 : Int) := of_decide_eq_true aM
        have q24 : a1 < (a0.size : Int) := of_decide_eq_true aM
        have hx24 := bt_at a0 a1
        replace p24 := eq_true p24
        replace q24 := eq_true q24
        try go_wp2
        replace HB := as_ (below_drew1 HB.out)
        refine start_ (n := 7) (S := fun w' => True) (ds := []) #[ff, ff, ff, ff, ff, ff, ff] (by kernel_rfl) rfl rfl trivial (fun hHeld => ?_)
        generalize wr.drew = w64 at HB hHeld ⊢
        refine pure_ (i := 0) (N := some 82) (v := ?_) (a' := ?_) #[tt, ff, ff, ff, ff, ff, ff] rfl rfl (by kernel_rfl) (fun _ _ _ h => h) (Or.inl ⟨by rfl, ?_⟩) ?_ ?_
        rotate_left
        ·intro w'
         go_simp
         with_reducible rfl
        rotate_left
        ·exact aP
        refine pure_ (i := 2) (N := some 84) (v := ?_) (a' := ?_) #[tt, ff, tt, ff, ff, ff, ff] rfl rfl (by kernel_rfl) (fun _ _ _ h => h) (Or.inl ⟨by rfl, ?_⟩) ?_ ?_
        rotate_left
        ·intro w'
         go_simp
         with_reducible rfl
        rotate_left
        ·exact aP
        refine pure_ (i := 3) (N := some 85) (v := ?_) (a' := ?_) #[tt, ff, tt, tt, ff, ff, ff] rfl rfl (by kernel_rfl) (fun _ _ _ h => h) (Or.inl ⟨by rfl, ?_⟩) ?_ ?_
        rotate_left
        ·intro w'
         go_simp
         with_reducible rfl
        rotate_left
        ·exact aP
        refine pure_ (i := 4) (N := some 86) (v := ?_) (a' := ?_) #[tt, ff, tt, tt, tt, ff, ff] rfl rfl (by kernel_rfl) (fun _ _ _ h => h) (Or.inl ⟨by rfl, ?_⟩) ?_ ?_
        rotate_left
        ·intro w'
         go_simp
         with_reducible rfl
        rotate_left
        ·exact aP
        refine pure_ (i := 5) (N := some 87) (v := ?_) (a' := ?_) #[tt, ff, tt, tt, tt, tt, ff] rfl rfl (by kernel_rfl) (fun _ _ _ h => h) (Or.inl ⟨by rfl, ?_⟩) ?_ ?_
        rotate_left
        ·intro w'
         go_simp
         with_reducible rfl
        rotate_left
        ·exact aP
        refine one_ (i := 1) (N := some 83) #[tt, tt, tt, tt, tt, tt, ff] rfl rfl (by kernel_rfl) (by decide) (fun K hK => ?_)
        refine goes_ Tryd.func26 (by kernel_rfl) rfl #[.int .u64 x8_3] (by rfl) rfl rfl aO ?_
        with_reducible refine (word_Put.calls k3 x8_3 t181 _ A58.out).mono ?_
        rintro e w65 ⟨rfl, hb⟩
        refine ⟨_, rfl, ?_⟩
        replace HB := as_ (below_step bA hb)
        (try clear hb)
        (try clear hb2)
        (try clear hk)
        (try clear hi)
        refine hK.out _ _ trivial (fun hHeld => ?_)
        clear hK K
        refine norm_ (a' := ?_) ?_ ?_
        rotate_left
        ·show Act.put _ (some 83) _ = _
         simp only [Act.put, List.setIfInBounds_toArray, List.set_cons_zero, List.set_cons_succ, i64_w, i32_w]
         rfl
        refine pure_ (i := 6) (N := some 88) (v := ?_) (a' := ?_) #[tt, tt, tt, tt, tt, tt, tt] rfl rfl (by kernel_rfl) (fun _ _ _ h => h) (Or.inl ⟨by rfl, ?_⟩) ?_ ?_
        rotate_left
        ·intro w'
         go_simp
         with_reducible rfl
        rotate_left
        ·exact aP
        refine done_ (by kernel_rfl) ?_
        try go_wp2
        go_ret3
        exact ⟨by first | rfl | (simp [errW_none, errW_some] <;> rfl) | (simp only [← hjs62]; first | rfl | (simp [errW_none, errW_some] <;> rfl)) | (simp [*, errW_none, errW_some] <;> rfl), by repeat (first | (with_reducible first | exact HB.out | apply below_alloc | apply pw_below_drewN | apply below_drew1) | exact HB.out)⟩
       rw [if_pos c47] at H
       have c47b0 : (t177 == 2) = true := beq_iff_eq.mpr c47
       have c47b1 : (t177 != 2) = false := bne_eq_false_iff_eq.mpr c47
       clear c47
       replace H := bM H
       obtain ⟨t180, A480, H⟩ := H
       replace H : (if a1 ≤ (wrap64 ((wrap64 (a1 + 1)) + t177)) then (if (wrap64 ((wrap64 (a1 + 1)) + t177)) ≤ (a0.size : Int) then (if t180.toList = (a0.extract (a1 : Int).toNat ((wrap64 ((wrap64 (a1 + 1)) + t177)) : Int).toNat).toList then (some (IntKind.u64.wrap (x8_3 + 2288), wrap64 ((wrap64 (a1 + 1)) + t177), 0)) else (some (0, 0, 3))) else (none)) else (none)) = some (r1, r2, r3) := H
       have A48 := Aside0.mk A480
       clear A480
       have c49b0 := eq_true (of_decide_eq_true aM : 0 ≤ a1)
       by_cases c50 : a1 ≤ (wrap64 ((wrap64 (a1 + 1)) + t177))
       rotate_left
       ·rw [if_neg c50] at H
        exact absurd H (by simp)
       rw [if_pos c50] at H
       have c50b0 := eq_true c50
       have c50b1 : decide (a1 ≤ (wrap64 ((wrap64 (a1 + 1)) + t177))) = true := decide_eq_true c50
       by_cases c51 : (wrap64 ((wrap64 (a1 + 1)) + t177)) ≤ (a0.size : Int)
       rotate_left
       ·rw [if_neg c51] at H
        exact absurd H (by simp)
       rw [if_pos c51] at H
       have c51b0 := eq_true c51
       have c51b1 : decide ((wrap64 ((wrap64 (a1 + 1)) + t177)) ≤ (a0.size : Int)) = true := decide_eq_true c51
       obtain ⟨js52, hjs52⟩ : ∃ j_ : ByteArray, (a0.extract (a1 : Int).toNat ((wrap64 ((wrap64 (a1 + 1)) + t177)) : Int).toNat) = j_ := ⟨_, rfl⟩
       replace H : (if t180.toList = (js52).toList then (some (IntKind.u64.wrap (x8_3 + 2288), wrap64 ((wrap64 (a1 + 1)) + t177), 0)) else (some (0, 0, 3))) = some (r1, r2, r3) := by first | (rw [hjs52] at H; exact H) | (simp only [hjs52] at H ⊢; exact H)
       (try rw [hjs52] at A48)
       by_cases c53 : t180.toList = (js52).toList
       rotate_left
       ·rw [if_neg c53] at H
        have c53b0 : (t180.toList == (js52).toList) = false := beq_eq_false_iff_ne.mpr c53
        have c53b1 : (t180.toList != (js52).toList) = true := bne_iff_ne.mpr c53
        simp only [Option.some.injEq, Prod.mk.injEq] at H
        obtain ⟨rfl, rfl, rfl⟩ := H
        have p24 : 0 ≤ (a1 : Int) := of_decide_eq_true aM
        have q24 : a1 < (a0.size : Int) := of_decide_eq_true aM
        have hx24 := bt_at a0 a1
        replace p24 := eq_true p24
        replace q24 := eq_true q24
        try go_wp2
        replace HB := as_ (below_drew1 HB.out)
        refine start_ (n := 7) (S := fun w' => True) (ds := []) #[ff, ff, ff, ff, ff, ff, ff] (by kernel_rfl) rfl rfl trivial (fun hHeld => ?_)
        generalize wr.drew = w56 at HB hHeld ⊢
        refine pure_ (i := 0) (N := some 82) (v := ?_) (a' := ?_) #[tt, ff, ff, ff, ff, ff, ff] rfl rfl (by kernel_rfl) (fun _ _ _ h => h) (Or.inl ⟨by rfl, ?_⟩) ?_ ?_
        rotate_left
        ·intro w'
         go_simp
         with_reducible rfl
        rotate_left
        ·exact aP
        refine pure_ (i := 2) (N := some 84) (v := ?_) (a' := ?_) #[tt, ff, tt, ff, ff, ff, ff] rfl rfl (by kernel_rfl) (fun _ _ _ h => h) (Or.inl ⟨by rfl, ?_⟩) ?_ ?_
        rotate_left
        ·intro w'
         go_simp
         with_reducible rfl
        rotate_left
        ·exact aP
        refine pure_ (i := 3) (N := some 85) (v := ?_) (a' := ?_) #[tt, ff, tt, tt, ff, ff, ff] rfl rfl (by kernel_rfl) (fun _ _ _ h => h) (Or.inl ⟨by rfl, ?_⟩) ?_ ?_
        rotate_left
        ·intro w'
         go_simp
         with_reducible rfl
        rotate_left
        ·exact aP
        refine pure_ (i := 4) (N := some 86) (v := ?_) (a' := ?_) #[tt, ff, tt, tt, tt, ff, ff] rfl rfl (by kernel_rfl) (fun _ _ _ h => h) (Or.inl ⟨by rfl, ?_⟩) ?_ ?_
        rotate_left
        ·intro w'
         go_simp
         with_reducible rfl
        rotate_left
        ·exact aP
        refine pure_ (i := 5) (N := some 87) (v := ?_) (a' := ?_) #[tt, ff, tt, tt, tt, tt, ff] rfl rfl (by kernel_rfl) (fun _ _ _ h => h) (Or.inl ⟨by rfl, ?_⟩) ?_ ?_
        rotate_left
        ·intro w'
         go_simp
         with_reducible rfl
        rotate_left
        ·exact aP
        refine one_ (i := 1) (N := some 83) #[tt, tt, tt, tt, tt, tt, ff] rfl rfl (by kernel_rfl) (by decide) (fun K hK => ?_)
        refine goes_ Tryd.func26 (by kernel_rfl) rfl #[.int .u64 (IntKind.u64.wrap (x8_3 + 2288))] (by rfl) rfl rfl aO ?_
        with_reducible refine (word_Put.calls k3 (IntKind.u64.wrap (x8_3 + 2288)) t180 _ A48.out).mono ?_
        rintro e w57 ⟨rfl, hb⟩
        refine ⟨_, rfl, ?_⟩
        replace HB := as_ (below_step bA hb)
        (try clear hb)
        (try clear hb2)
        (try clear hk)
        (try clear hi)
        refine hK.out _ _ trivial (fun hHeld => ?_)
        clear hK K
        refine norm_ (a' := ?_) ?_ ?_
        rotate_left
        ·show Act.put _ (some 83) _ = _
         simp only [Act.put, List.setIfInBounds_toArray, List.set_cons_zero, List.set_cons_succ, i64_w, i32_w]
         rfl
        refine pure_ (i := 6) (N := some 88) (v := ?_) (a' := ?_) #[tt, tt, tt, tt, tt, tt, tt] rfl rfl (by kernel_rfl) (fun _ _ _ h => h) (Or.inl ⟨by rfl, ?_⟩) ?_ ?_
        rotate_left
        ·intro w'
         go_simp
         with_reducible rfl
        rotate_left
        ·exact aP
        refine done_ (by kernel_rfl) ?_
        try go_wp2
        go_ret3
        exact ⟨by first | rfl | (simp [errW_none, errW_some] <;> rfl) | (simp only [← hjs52]; first | rfl | (simp [errW_none, errW_some] <;> rfl)) | (simp [*, errW_none, errW_some] <;> rfl), by repeat (first | (with_reducible first | exact HB.out | apply below_alloc | apply pw_below_drewN | apply below_drew1) | exact HB.out)⟩
       rw [if_pos c53] at H
       have c53b0 : (t180.toList == (js52).toList) = true := beq_iff_eq.mpr c53
       have c53b1 : (t180.toList != (js52).toList) = false := bne_eq_false_iff_eq.mpr c53
       clear c53
       simp only [Option.some.injEq, Prod.mk.injEq] at H
       obtain ⟨rfl, rfl, rfl⟩ := H
       have p24 : 0 ≤ (a1 : Int) := of_decide_eq_true aM
       have q24 : a1 < (a0.size : Int) := of_decide_eq_true aM
       have hx24 := bt_at a0 a1
       replace p24 := eq_true p24
       replace q24 := eq_true q24
       try go_wp2
       replace HB := as_ (below_drew1 HB.out)
       refine start_ (n := 7) (S := fun w' => True) (ds := []) #[ff, ff, ff, ff, ff, ff, ff] (by kernel_rfl) rfl rfl trivial (fun hHeld => ?_)
       generalize wr.drew = w54 at HB hHeld ⊢
       refine pure_ (i := 0) (N := some 82) (v := ?_) (a' := ?_) #[tt, ff, ff, ff, ff, ff, ff] rfl rfl (by kernel_rfl) (fun _ _ _ h => h) (Or.inl ⟨by rfl, ?_⟩) ?_ ?_
       rotate_left
       ·intro w'
        go_simp
        with_reducible rfl
       rotate_left
       ·exact aP
       refine pure_ (i := 2) (N := some 84) (v := ?_) (a' := ?_) #[tt, ff, tt, ff, ff, ff, ff] rfl rfl (by kernel_rfl) (fun _ _ _ h => h) (Or.inl ⟨by rfl, ?_⟩) ?_ ?_
       rotate_left
       ·intro w'
        go_simp
        with_reducible rfl
       rotate_left
       ·exact aP
       refine pure_ (i := 3) (N := some 85) (v := ?_) (a' := ?_) #[tt, ff, tt, tt, ff, ff, ff] rfl rfl (by kernel_rfl) (fun _ _ _ h => h) (Or.inl ⟨by rfl, ?_⟩) ?_ ?_
       rotate_left
       ·intro w'
        go_simp
        with_reducible rfl
       rotate_left
       ·exact aP
       refine pure_ (i := 4) (N := some 86) (v := ?_) (a' := ?_) #[tt, ff, tt, tt, tt, ff, ff] rfl rfl (by kernel_rfl) (fun _ _ _ h => h) (Or.inl ⟨by rfl, ?_⟩) ?_ ?_
       rotate_left
       ·intro w'
        go_simp
        with_reducible rfl
       rotate_left
       ·exact aP
       refine pure_ (i := 5) (N := some 87) (v := ?_) (a' := ?_) #[tt, ff, tt, tt, tt, tt, ff] rfl rfl (by kernel_rfl) (fun _ _ _ h => h) (Or.inl ⟨by rfl, ?_⟩) ?_ ?_
       rotate_left
       ·intro w'
        go_simp
        with_reducible rfl
       rotate_left
       ·exact aP
       refine one_ (i := 1) (N := some 83) #[tt, tt, tt, tt, tt, tt, ff] rfl rfl (by kernel_rfl) (by decide) (fun K hK => ?_)
       refine goes_ Tryd.func26 (by kernel_rfl) rfl #[.int .u64 (IntKind.u64.wrap (x8_3 + 2288))] (by rfl) rfl rfl aO ?_
       with_reducible refine (word_Put.calls k3 (IntKind.u64.wrap (x8_3 + 2288)) t180 _ A48.out).mono ?_
       rintro e w55 ⟨rfl, hb⟩
       refine ⟨_, rfl, ?_⟩
       replace HB := as_ (below_step bA hb)
       (try clear hb)
       (try clear hb2)
       (try clear hk)
       (try clear hi)
       refine hK.out _ _ trivial (fun hHeld => ?_)
       clear hK K
       refine norm_ (a' := ?_) ?_ ?_
       rotate_left
       ·show Act.put _ (some 83) _ = _
        simp only [Act.put, List.setIfInBounds_toArray, List.set_cons_zero, List.set_cons_succ, i64_w, i32_w]
        rfl
       refine pure_ (i := 6) (N := some 88) (v := ?_) (a' := ?_) #[tt, tt, tt, tt, tt, tt, tt] rfl rfl (by kernel_rfl) (fun _ _ _ h => h) (Or.inl ⟨by rfl, ?_⟩) ?_ ?_
       rotate_left
       ·intro w'
        go_simp
        with_reducible rfl
       rotate_left
       ·exact aP
       refine done_ (by kernel_rfl) ?_
       try go_wp2
       go_ret3
       exact ⟨by first | rfl | (simp [errW_none, errW_some] <;> rfl) | (simp only [← hjs52]; first | rfl | (simp [errW_none, errW_some] <;> rfl)) | (simp [*, errW_none, errW_some] <;> rfl), by repeat (first | (with_reducible first | exact HB.out | apply below_alloc | apply pw_below_drewN | apply below_drew1) | exact HB.out)⟩
/-! ### col_text: function 32 -/
def col_text.l0 : Nat → ByteArray → List Int → Int → Option (ByteArray × Int × Int)
 | 0, _, _, _ => none
 | k + 1, x0, x7, x8 => if x8 < (x0.size : Int) then (if 0 ≤ x8 then (if (bt x0 x8) = 0 then (if (wrap64 (x8 + 1)) = (x0.size : Int) then (some ((⟨#[]⟩ : ByteArray), 0, 7)) else (if 0 ≤ (wrap64 (x8 + 1)) then (if (wrap64 (x8 + 1)) < (x0.size : Int) then (if (bt x0 (wrap64 (x8 + 1))) = 1 then (some (strOfNums x7, wrap64 ((wrap64 (x8 + 1)) + 1), 0)) else (if (bt x0 (wrap64 (x8 + 1))) = 255 then (if x7.length < 140737488355328 then (col_text.l0 k x0 (x7 ++ [0]) (wrap64 ((wrap64 (x8 + 1)) + 1))) else (none)) else (some ((⟨#[]⟩ : ByteArray), 0, 3)))) else (none)) else (none))) else (if x7.length < 140737488355328 then (col_text.l0 k x0 (x7 ++ [bt x0 x8]) (wrap64 (x8 + 1))) else (none))) else (none)) else (some ((⟨#[]⟩ : ByteArray), 0, 7))
def col_text.f (k : Nat) (a0 : ByteArray) (a1 : Int) : Option (ByteArray × Int × Int) := col_text.l0 k a0 ([] : List Int) a1
theorem col_text.mono_l : ∀ k, (∀ y0 y1 y2, LeO (col_text.l0 k y0 y1 y2) (col_text.l0 (k + 1) y0 y1 y2))
 | 0 => fun _ _ _ r h => by simp [col_text.l0] at h
 | k + 1 => by
  have ih0 := col_text.mono_l k
  ·intro y0 y1 y2
   unfold col_text.l0
   repeat' first
   | (with_reducible exact ih0 _ _ _)
   | (with_reducible exact LeO.refl _)
   | (with_reducible exact LeO.none _)
   | (with_reducible refine LeO.ite ?_ ?_)
   | (with_reducible refine LeO.bind ?_ (fun _ => ?_))
   | exact ih0 _ _ _
   | exact LeO.none _
   | refine LeO.ite ?_ ?_
   | refine LeO.bind ?_ (fun _ => ?_)
theorem col_text.mono : ∀ a0 a1 k, LeO (col_text.f k a0 a1) (col_text.f (k + 1) a0 a1) := by
 intro a0 a1 k
 have ih0 := col_text.mono_l k
 unfold col_text.f
 repeat' first
   | (with_reducible exact ih0 _ _ _)
   | (with_reducible exact LeO.refl _)
   | (with_reducible exact LeO.none _)
   | (with_reducible refine LeO.ite ?_ ?_)
   | (with_reducible refine LeO.bind ?_ (fun _ => ?_))
   | exact ih0 _ _ _
   | exact LeO.none _
   | refine LeO.ite ?_ ?_
   | refine LeO.bind ?_ (fun _ => ?_)
set_option maxHeartbeats 8000000 in
set_option maxRecDepth 100000 in
theorem col_text.calls (k : Nat) (a0 : ByteArray) (a1 : Int) (r1 : ByteArray) (r2 : Int) (r3 : Int) (w : World) (h : col_text.f k a0 a1 = some (r1, r2, r3)) :
  Calls Tryd.prog 32 #[.string a0, .int .i64 a1] w fun e w' => e = .returned (.tuple #[.string r1, .int .i64 r2, .int .i64 r3]) ∧ Below w.heap.size w w' := by
 have HB := as_ (Below.refl w.heap.size w)
 have H : (col_text.l0 k a0 ([] : List Int) a1) = some (r1, r2, r3) := h
 clear h
 have H' := Aside0.mk H
 clear H
 go_enter Tryd.func32, Tryd.ntmps32
 go_wp2
 repeat (go_quiet (fail); try go_wp2)
 go_loopg [7, 8] k (fun kq v7 v8 w' => ∃ (x7_1 : List Int) (x8_1 : Int), v8 = .int .i64 x8_1 ∧ Aside0 (col_text.l0 kq a0 x7_1 x8_1 = some (r1, r2, r3)) ∧ Aside0 (kq ≤ k) ∧ Aside0 (Kd.R (Kd.int .u8) 5 w' w.heap.size (fun _ => True) v7 x7_1) ∧ Aside0 (Below w.heap.size w w'))
 case atStart => exact ⟨(([] : List Int)), (a1), (by first | rfl | (simp; done) | (simp [*]; done)), H', ⟨Nat.le_refl _⟩, ⟨by first | exact Kd.R_nil _ _ _ _ _ | exact Kd.N_nil _ _ _ _ _ | exact Kd.V_nil _ _ _ _ _ | exact Kd.Q_nil _ _ _ _ _ | exact Kd.S_nil _ _ _ _ _⟩, ⟨by repeat (first | (with_reducible first | exact HB.out | apply below_alloc | apply pw_below_drewN | apply below_drew1) | exact HB.out)⟩⟩
 case round =>
  clear H'
  try clear p2
  obtain ⟨x7_1, x8_1, rfl, HA, HK1, HO_7, HB⟩ := hrel
  cases gk with
  | zero => exact absurd HA.out (by simp [col_text.l0])
  | succ k1 =>
   have H := HA.out
   clear HA
   simp only [col_text.l0] at H
   by_cases c3 : x8_1 < (a0.size : Int)
   rotate_left
   ·rw [if_neg c3] at H
    have c3b0 : decide (x8_1 < (a0.size : Int)) = false := decide_eq_false c3
    clear c3
    simp only [Option.some.injEq, Prod.mk.injEq] at H
    obtain ⟨rfl, rfl, rfl⟩ := H
    go_wp2
    repeat (go_quiet (fail); try go_wp2)
    go_ret3
    exact ⟨eW, by repeat (first | (with_reducible first | exact HB.out | apply below_alloc | apply pw_below_drewN | apply below_drew1) | exact HB.out)⟩
 
   rw [if_pos c3] at H
   have c3b0 : decide (x8_1 < (a0.size : Int)) = true := decide_eq_true c3
   clear c3
   by_cases c4 : 0 ≤ x8_1
   rotate_left
   ·rw [if_neg c4] at H
    exact absurd H (by simp)
   rw [if_pos c4] at H
   have c4b0 : decide (0 ≤ x8_1) = true := decide_eq_true c4
   clear c4
   by_cases c6 : (bt a0 x8_1) = 0
   rotate_left
   ·rw [if_neg c6] at H
    have c6b0 : ((bt a0 x8_1) == 0) = false := beq_eq_false_iff_ne.mpr c6
    have c6b1 : ((bt a0 x8_1) != 0) = true := bne_iff_ne.mpr c6
    by_cases c21 : x7_1.length < 140737488355328
    rotate_left
    ·rw [if_neg c21] at H
     exact absurd H (by simp)
    rw [if_pos c21] at H
    have LMc21 := Aside0.mk c21
    clear c21
    obtain ⟨y182, hy182⟩ : ∃ y_ : List Int, y_ = (x7_1 ++ [bt a0 x8_1]) := ⟨_, rfl⟩
    replace H : (col_text.l0 k1 a0 y182 (wrap64 (x8_1 + 1))) = some (r1, r2, r3) := by first | (rw [hy182]; with_reducible exact H) | (have H2_ := (Option.bind_some _ _).symm.trans H; rw [hy182]; with_reducible exact H2_) | (have H2_ := (Option.bind_some _ _).symm.trans H; with_reducible exact H2_) | with_reducible exact H | (rw [hy182]; exact H) | exact H
    have Ny182 := Aside0.mk hy182
    clear hy182
    have H' := Aside0.mk H
    clear H
    have p5 : 0 ≤ (x8_1 : Int) := of_decide_eq_true aM
    have q5 : x8_1 < (a0.size : Int) := of_decide_eq_true aM
    have hx5 := bt_at a0 x8_1
    replace p5 := eq_true p5
    replace q5 := eq_true q5
    have p20 : 0 ≤ (x8_1 : Int) := of_decide_eq_true aM
    have q20 : x8_1 < (a0.size : Int) := of_decide_eq_true aM
    have hx20 := bt_at a0 x8_1
    replace p20 := eq_true p20
    replace q20 := eq_true q20
    go_wp2_with (first | ((with_reducible refine gate_builtin (b := .append) (xs := #[.tmp 20, .tmp 24]) rfl ?_); at_builtin; refine Kd.R_append (Kd.int .u8) (w0 := w) w.heap.size rfl (.tmp 20) (.tmp 24) 49 5 (.int .u8 0) 1 rfl Tryd.underlying49 info5 rfl (by decide) (by omega) u7 x7_1 (bt a0 x8_1) [.int .u8 (bt a0 x8_1)] (fun _ => True) (fun _ => False) rfl rfl ?aP (fun _ hk => hk.elim) ?aF ?aO ?aB ?aS ?aL ?_; (case aP => exact rfl); (case aB => exact bA); (case aF => exact (fun _ _ => trivial)); (case aO => exact (by (with_reducible repeat (first | apply Kd.R_alloc | apply Kd.R_drewN | apply Kd.R_drew)); exact HO_7.out)); (case aS => exact (below_size bA)); (case aL => have := LMc21.out; omega); intro v183 w22 ho hb hg hat; rw [← Ny182.out] at ho; have HO184 := as_ (ho); replace HB := as_ (hb); clear HO_7; clear ho hb hg hat))
    repeat (go_quiet (first | ((with_reducible refine gate_builtin (b := .append) (xs := #[.tmp 20, .tmp 24]) rfl ?_); at_builtin; refine Kd.R_append (Kd.int .u8) (w0 := w) w.heap.size rfl (.tmp 20) (.tmp 24) 49 5 (.int .u8 0) 1 rfl Tryd.underlying49 info5 rfl (by decide) (by omega) u7 x7_1 (bt a0 x8_1) [.int .u8 (bt a0 x8_1)] (fun _ => True) (fun _ => False) rfl rfl ?aP (fun _ hk => hk.elim) ?aF ?aO ?aB ?aS ?aL ?_; (case aP => exact rfl); (case aB => exact bA); (case aF => exact (fun _ _ => trivial)); (case aO => exact (by (with_reducible repeat (first | apply Kd.R_alloc | apply Kd.R_drewN | apply Kd.R_drew)); exact HO_7.out)); (case aS => exact (below_size bA)); (case aL => have := LMc21.out; omega); intro v183 w22 ho hb hg hat; rw [← Ny182.out] at ho; have HO184 := as_ (ho); replace HB := as_ (hb); clear HO_7; clear ho hb hg hat)); try go_wp2_with (first | ((with_reducible refine gate_builtin (b := .append) (xs := #[.tmp 20, .tmp 24]) rfl ?_); at_builtin; refine Kd.R_append (Kd.int .u8) (w0 := w) w.heap.size rfl (.tmp 20) (.tmp 24) 49 5 (.int .u8 0) 1 rfl Tryd.underlying49 info5 rfl (by decide) (by omega) u7 x7_1 (bt a0 x8_1) [.int .u8 (bt a0 x8_1)] (fun _ => True) (fun _ => False) rfl rfl ?aP (fun _ hk => hk.elim) ?aF ?aO ?aB ?aS ?aL ?_; (case aP => exact rfl); (case aB => exact bA); (case aF => exact (fun _ _ => trivial)); (case aO => exact (by (with_reducible repeat (first | apply Kd.R_alloc | apply Kd.R_drewN | apply Kd.R_drew)); exact HO_7.out)); (case aS => exact (below_size bA)); (case aL => have := LMc21.out; omega); intro v183 w22 ho hb hg hat; rw [← Ny182.out] at ho; have HO184 := as_ (ho); replace HB := as_ (hb); clear HO_7; clear ho hb hg hat)))
    go_roundg k1
    case measure => have := HK1.out; omega
    case rel => exact ⟨(y182), (wrap64 (x8_1 + 1)), (by first | rfl | (simp; done) | (simp [*]; done)), H', ⟨by have := HK1.out; omega⟩, ⟨by (with_reducible repeat (first | apply Kd.R_alloc | apply Kd.R_drewN | apply Kd.R_drew)); exact HO184.out⟩, ⟨by repeat (first | (with_reducible first | exact HB.out | apply below_alloc | apply pw_below_drewN | apply below_drew1) | exact HB.out)⟩⟩
   rw [if_pos c6] at H
   have c6b0 : ((bt a0 x8_1) == 0) = true := beq_iff_eq.mpr c6
   have c6b1 : ((bt a0 x8_1) != 0) = false := bne_eq_false_iff_eq.mpr c6
   clear c6
   by_cases c7 : (wrap64 (x8_1 + 1)) = (a0.size : Int)
   ·rw [if_pos c7] at H
    have c7b0 : ((wrap64 (x8_1 + 1)) == (a0.size : Int)) = true := beq_iff_eq.mpr c7
    have c7b1 : ((wrap64 (x8_1 + 1)) != (a0.size : Int)) = false := bne_eq_false_iff_eq.mpr c7
    clear c7
    simp only [Option.some.injEq, Prod.mk.injEq] at H
    obtain ⟨rfl, rfl, rfl⟩ := H
    have p5 : 0 ≤ (x8_1 : Int) := of_decide_eq_true aM
    have q5 : x8_1 < (a0.size : Int) := of_decide_eq_true aM
    have hx5 := bt_at a0 x8_1
    replace p5 := eq_true p5
    replace q5 := eq_true q5
    go_wp2
    repeat (go_quiet (fail); try go_wp2)
    go_ret3
    exact ⟨eW, by repeat (first | (with_reducible first | exact HB.out | apply below_alloc | apply pw_below_drewN | apply below_drew1) | exact HB.out)⟩
   rw [if_neg c7] at H
   have c7b0 : ((wrap64 (x8_1 + 1)) == (a0.size : Int)) = false := beq_eq_false_iff_ne.mpr c7
   have c7b1 : ((wrap64 (x8_1 + 1)) != (a0.size : Int)) = true := bne_iff_ne.mpr c7
   obtain ⟨ji8, hji8⟩ : ∃ j_ : Int, (wrap64 (x8_1 + 1)) = j_ := ⟨_, rfl⟩
   replace H : (if 0 ≤ (ji8) then (if (ji8) < (a0.size : Int) then (if (bt a0 (ji8)) = 1 then (some (strOfNums x7_1, wrap64 ((ji8) + 1), 0)) else (if (bt a0 (ji8)) = 255 then (if x7_1.length < 140737488355328 then (col_text.l0 k1 a0 (x7_1 ++ [0]) (wrap64 ((ji8) + 1))) else (none)) else (some ((⟨#[]⟩ : ByteArray), 0, 3)))) else (none)) else (none)) = some (r1, r2, r3) := by first | (rw [hji8] at H; exact H) | (simp only [hji8] at H ⊢; exact H)
   (try rw [hji8] at c7b0)
   (try rw [hji8] at c7b1)
   have hji8w : (IntKind.i64.wrap (x8_1 + 1)) = ji8 := (i64_w _).trans hji8
   by_cases c9 : 0 ≤ (ji8)
   rotate_left
   ·rw [if_neg c9] at H
    exact absurd H (by simp)
   rw [if_pos c9] at H
   have c9b0 : decide (0 ≤ (ji8)) = true := decide_eq_true c9
   clear c9
   by_cases c10 : (ji8) < (a0.size : Int)
   rotate_left
   ·rw [if_neg c10] at H
    exact absurd H (by simp)
   rw [if_pos c10] at H
   have c10b0 : decide ((ji8) < (a0.size : Int)) = true := decide_eq_true c10
   clear c10
   by_cases c13 : (bt a0 (ji8)) = 1
   ·rw [if_pos c13] at H
    have c13b0 : ((bt a0 (ji8)) == 1) = true := beq_iff_eq.mpr c13
    have c13b1 : ((bt a0 (ji8)) != 1) = false := bne_eq_false_iff_eq.mpr c13
    clear c13
    simp only [Option.some.injEq, Prod.mk.injEq] at H
    obtain ⟨rfl, rfl, rfl⟩ := H
    have p5 : 0 ≤ (x8_1 : Int) := of_decide_eq_true aM
    have q5 : x8_1 < (a0.size : Int) := of_decide_eq_true aM
    have hx5 := bt_at a0 x8_1
    replace p5 := eq_true p5
    replace q5 := eq_true q5
    have p11 : 0 ≤ ((ji8) : Int) := of_decide_eq_true aM
    have q11 : (ji8) < (a0.size : Int) := of_decide_eq_true aM
    have hx11 := bt_at a0 (ji8)
    replace p11 := eq_true p11
    replace q11 := eq_true q11
    have p12 : 0 ≤ (1 : Int) := (by omega)
    have q12 : 1 < (2 : Int) := (by omega)
    have hx12 : ((((⟨#[0, 1]⟩ : ByteArray)[1]'(by decide)).toNat : Nat) : Int) = 1 := rfl
    replace p12 := eq_true p12
    replace q12 := eq_true q12
    have hcv14 := own_string (P := Tryd.prog) Tryd.underlying49 Tryd.underlying5 Tryd.underlying9 (Kd.own_of_R HO_7.out)
    have hcv14d := fun n_ : Nat => own_string (P := Tryd.prog) Tryd.underlying49 Tryd.underlying5 Tryd.underlying9 (Kd.own_of_R (Kd.R_drewN HO_7.out n_))
    go_wp2
    repeat (go_quiet (fail); try go_wp2)
    go_ret3
    exact ⟨by first | rfl | (simp [errW_none, errW_some] <;> rfl) | (simp only [← hji8]; first | rfl | (simp [errW_none, errW_some] <;> rfl)) | (simp [*, errW_none, errW_some] <;> rfl), by repeat (first | (with_reducible first | exact HB.out | apply below_alloc | apply pw_below_drewN | apply below_drew1) | exact HB.out)⟩
   rw [if_neg c13] at H
   have c13b0 : ((bt a0 (ji8)) == 1) = false := beq_eq_false_iff_ne.mpr c13
   have c13b1 : ((bt a0 (ji8)) != 1) = true := bne_iff_ne.mpr c13
   by_cases c17 : (bt a0 (ji8)) = 255
   rotate_left
   ·rw [if_neg c17] at H
    have c17b0 : ((bt a0 (ji8)) == 255) = false := beq_eq_false_iff_ne.mpr c17
    have c17b1 : ((bt a0 (ji8)) != 255) = true := bne_iff_ne.mpr c17
    simp only [Option.some.injEq, Prod.mk.injEq] at H
    obtain ⟨rfl, rfl, rfl⟩ := H
    have p5 : 0 ≤ (x8_1 : Int) := of_decide_eq_true aM
    have q5 : x8_1 < (a0.size : Int) := of_decide_eq_true aM
    have hx5 := bt_at a0 x8_1
    replace p5 := eq_true p5
    replace q5 := eq_true q5
    have p11 : 0 ≤ ((ji8) : Int) := of_decide_eq_true aM
    have q11 : (ji8) < (a0.size : Int) := of_decide_eq_true aM
    have hx11 := bt_at a0 (ji8)
    replace p11 := eq_true p11
    replace q11 := eq_true q11
    have p12 : 0 ≤ (1 : Int) := (by omega)
    have q12 : 1 < (2 : Int) := (by omega)
    have hx12 : ((((⟨#[0, 1]⟩ : ByteArray)[1]'(by decide)).toNat : Nat) : Int) = 1 := rfl
    replace p12 := eq_true p12
    replace q12 := eq_true q12
    have p15 : 0 ≤ ((ji8) : Int) := of_decide_eq_true aM
    have q15 : (ji8) < (a0.size : Int) := of_decide_eq_true aM
    have hx15 := bt_at a0 (ji8)
    replace p15 := eq_true p15
    replace q15 := eq_true q15
    have p16 : 0 ≤ (1 : Int) := (by omega)
    have q16 : 1 < (2 : Int) := (by omega)
    have hx16 : ((((⟨#[0, 255]⟩ : ByteArray)[1]'(by decide)).toNat : Nat) : Int) = 255 := rfl
    replace p16 := eq_true p16
    replace q16 := eq_true q16
    go_wp2
    repeat (go_quiet (fail); try go_wp2)
    go_ret3
    exact ⟨by first | rfl | (simp [errW_none, errW_some] <;> rfl) | (simp only [← hji8]; first | rfl | (simp [errW_none, errW_some] <;> rfl)) | (simp [*, errW_none, errW_some] <;> rfl), by repeat (first | (with_reducible first | exact HB.out | apply below_alloc | apply pw_below_drewN | apply below_drew1) | exact HB.out)⟩
   rw [if_pos c17] at H
   have c17b0 : ((bt a0 (ji8)) == 255) = true := beq_iff_eq.mpr c17
   have c17b1 : ((bt a0 (ji8)) != 255) = false := bne_eq_false_iff_eq.mpr c17
   clear c17
   by_cases c18 : x7_1.length < 140737488355328
   rotate_left
   ·rw [if_neg c18] at H
    exact absurd H (by simp)
   rw [if_pos c18] at H
   have LMc18 := Aside0.mk c18
   clear c18
   obtain ⟨y185, hy185⟩ : ∃ y_ : List Int, y_ = (x7_1 ++ [0]) := ⟨_, rfl⟩
   replace H : (col_text.l0 k1 a0 y185 (wrap64 ((ji8) + 1))) = some (r1, r2, r3) := by first | (rw [hy185]; with_reducible exact H) | (have H2_ := (Option.bind_some _ _).symm.trans H; rw [hy185]; with_reducible exact H2_) | (have H2_ := (Option.bind_some _ _).symm.trans H; with_reducible exact H2_) | with_reducible exact H | (rw [hy185]; exact H) | exact H
   have Ny185 := Aside0.mk hy185
   clear hy185
   have H' := Aside0.mk H
   clear H
   have p5 : 0 ≤ (x8_1 : Int) := of_decide_eq_true aM
   have q5 : x8_1 < (a0.size : Int) := of_decide_eq_true aM
   have hx5 := bt_at a0 x8_1
   replace p5 := eq_true p5
   replace q5 := eq_true q5
   have p11 : 0 ≤ ((ji8) : Int) := of_decide_eq_true aM
   have q11 : (ji8) < (a0.size : Int) := of_decide_eq_true aM
   have hx11 := bt_at a0 (ji8)
   replace p11 := eq_true p11
   replace q11 := eq_true q11
   have p12 : 0 ≤ (1 : Int) := (by omega)
   have q12 : 1 < (2 : Int) := (by omega)
   have hx12 : ((((⟨#[0, 1]⟩ : ByteArray)[1]'(by decide)).toNat : Nat) : Int) = 1 := rfl
   replace p12 := eq_true p12
   replace q12 := eq_true q12
   have p15 : 0 ≤ ((ji8) : Int) := of_decide_eq_true aM
   have q15 : (ji8) < (a0.size : Int) := of_decide_eq_true aM
   have hx15 := bt_at a0 (ji8)
   replace p15 := eq_true p15
   replace q15 := eq_true q15
   have p16 : 0 ≤ (1 : Int) := (by omega)
   have q16 : 1 < (2 : Int) := (by omega)
   have hx16 : ((((⟨#[0, 255]⟩ : ByteArray)[1]'(by decide)).toNat : Nat) : Int) = 255 := rfl
   replace p16 := eq_true p16
   replace q16 := eq_true q16
   go_wp2_with (first | ((with_reducible refine gate_builtin (b := .append) (xs := #[.tmp 49, .tmp 50]) rfl ?_); at_builtin; refine Kd.R_append (Kd.int .u8) (w0 := w) w.heap.size rfl (.tmp 49) (.tmp 50) 49 5 (.int .u8 0) 1 rfl Tryd.underlying49 info5 rfl (by decide) (by omega) u7 x7_1 0 [.int .u8 0] (fun _ => True) (fun _ => False) rfl rfl ?aP (fun _ hk => hk.elim) ?aF ?aO ?aB ?aS ?aL ?_; (case aP => exact rfl); (case aB => exact bA); (case aF => exact (fun _ _ => trivial)); (case aO => exact (by (with_reducible repeat (first | apply Kd.R_alloc | apply Kd.R_drewN | apply Kd.R_drew)); exact HO_7.out)); (case aS => exact (below_size bA)); (case aL => have := LMc18.out; omega); intro v186 w19 ho hb hg hat; rw [← Ny185.out] at ho; have HO187 := as_ (ho); replace HB := as_ (hb); clear HO_7; clear ho hb hg hat))
   repeat (go_quiet (first | ((with_reducible refine gate_builtin (b := .append) (xs := #[.tmp 49, .tmp 50]) rfl ?_); at_builtin; refine Kd.R_append (Kd.int .u8) (w0 := w) w.heap.size rfl (.tmp 49) (.tmp 50) 49 5 (.int .u8 0) 1 rfl Tryd.underlying49 info5 rfl (by decide) (by omega) u7 x7_1 0 [.int .u8 0] (fun _ => True) (fun _ => False) rfl rfl ?aP (fun _ hk => hk.elim) ?aF ?aO ?aB ?aS ?aL ?_; (case aP => exact rfl); (case aB => exact bA); (case aF => exact (fun _ _ => trivial)); (case aO => exact (by (with_reducible repeat (first | apply Kd.R_alloc | apply Kd.R_drewN | apply Kd.R_drew)); exact HO_7.out)); (case aS => exact (below_size bA)); (case aL => have := LMc18.out; omega); intro v186 w19 ho hb hg hat; rw [← Ny185.out] at ho; have HO187 := as_ (ho); replace HB := as_ (hb); clear HO_7; clear ho hb hg hat)); try go_wp2_with (first | ((with_reducible refine gate_builtin (b := .append) (xs := #[.tmp 49, .tmp 50]) rfl ?_); at_builtin; refine Kd.R_append (Kd.int .u8) (w0 := w) w.heap.size rfl (.tmp 49) (.tmp 50) 49 5 (.int .u8 0) 1 rfl Tryd.underlying49 info5 rfl (by decide) (by omega) u7 x7_1 0 [.int .u8 0] (fun _ => True) (fun _ => False) rfl rfl ?aP (fun _ hk => hk.elim) ?aF ?aO ?aB ?aS ?aL ?_; (case aP => exact rfl); (case aB => exact bA); (case aF => exact (fun _ _ => trivial)); (case aO => exact (by (with_reducible repeat (first | apply Kd.R_alloc | apply Kd.R_drewN | apply Kd.R_drew)); exact HO_7.out)); (case aS => exact (below_size bA)); (case aL => have := LMc18.out; omega); intro v186 w19 ho hb hg hat; rw [← Ny185.out] at ho; have HO187 := as_ (ho); replace HB := as_ (hb); clear HO_7; clear ho hb hg hat)))
   go_roundg k1
   case measure => have := HK1.out; omega
   case rel => exact ⟨(y185), (wrap64 ((ji8) + 1)), (by first | rfl | (simp; done) | (simp only [← hji8] <;> (first | rfl | simp)) | (simp [*]; done)), H', ⟨by have := HK1.out; omega⟩, ⟨by (with_reducible repeat (first | apply Kd.R_alloc | apply Kd.R_drewN | apply Kd.R_drew)); exact HO187.out⟩, ⟨by repeat (first | (with_reducible first | exact HB.out | apply below_alloc | apply pw_below_drewN | apply below_drew1) | exact HB.out)⟩⟩
end Go.Proofs.YtjfgeppfkhaliaaDoor.P
