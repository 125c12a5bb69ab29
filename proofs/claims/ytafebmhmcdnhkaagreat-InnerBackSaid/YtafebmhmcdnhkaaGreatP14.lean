/- What is proved here: for functions of the Go text, a Lean function each, and that the call comes to just what it answers. Conditions: as each contract names them. Written by wip/tools/myprint.py, a driver of the print of the kit. -/
import Derived.Test.YtafebmhmcdnhkaaGreatP0
import Derived.Test.YtafebmhmcdnhkaaGreatP2
import Derived.Test.YtafebmhmcdnhkaaGreatP3
import Derived.Test.YtafebmhmcdnhkaaGreatP6
import Derived.Test.YtafebmhmcdnhkaaGreatP10
import Derived.Test.YtafebmhmcdnhkaaGreatP11
import Derived.Test.YtafebmhmcdnhkaaGreatP12
import Derived.Test.YtafebmhmcdnhkaaGreatWAbbr
namespace Go.Proofs.YtafebmhmcdnhkaaGreat.P
open Go.RowKit Go.Proofs.YtafebmhmcdnhkaaGreatW.PrintWords Go.Proofs.YtafebmhmcdnhkaaGreatW.PrintLast Go.Proofs.YtafebmhmcdnhkaaGreatW.PrintMore Go.Proofs.YtafebmhmcdnhkaaGreatW.Abbr
-- PACKED
attribute [local go_sem] max2_int min2_int max_two min_two max_three min_three max_four min_four Go.Proofs.YtafebmhmcdnhkaaGreatLaws.str_leq Go.Proofs.YtafebmhmcdnhkaaGreatLaws.str_gtr Go.Proofs.YtafebmhmcdnhkaaGreatLaws.str_geq Go.Proofs.YtafebmhmcdnhkaaGreatLaws.max2_str Go.Proofs.YtafebmhmcdnhkaaGreatLaws.min2_str   -- for this text's walks alone
set_option linter.unusedVariables false
set_option linter.unusedSimpArgs false

/-! ### withylaw11_InnerBack: function 4 -/
def withylaw11_InnerBack.j0 : Nat → ByteArray → Option (Bool)
 | 0, _ => none
 | k + 1, x2 => (inner_Decode.f k x2).bind fun bt503 => (if bt503.2.2.2.2.2.2 = 0 then ((inner_Encode.f k bt503.1 bt503.2.1 bt503.2.2.1 bt503.2.2.2.1 bt503.2.2.2.2.1 bt503.2.2.2.2.2.1 (x2.size : Int)).bind fun bt515 => (if bt515.2 = 0 then (if bt515.1.toList = x2.toList then ((inner_May.f k bt503.1 bt503.2.1 bt503.2.2.1 bt503.2.2.2.1 bt503.2.2.2.2.1 bt503.2.2.2.2.2.1 (x2.size : Int)).bind fun t517 => (if t517 = true then ((withylaw11_fixed.f k).bind fun t518 => (some t518)) else (none))) else (none)) else (none))) else (if bt503.2.2.2.2.2.2 = 3 then ((inner_Same.f k bt503.1 bt503.2.1 bt503.2.2.1 bt503.2.2.2.1 bt503.2.2.2.2.1 bt503.2.2.2.2.2.1 0 0 0 (⟨#[]⟩ : ByteArray) ([] : List Int) ([] : List ByteArray)).bind fun t519 => (if t519 = true then ((withylaw11_fixed.f k).bind fun t520 => (some t520)) else (none))) else (none)))
def withylaw11_InnerBack.f (k : Nat) (a0_0 : Int) (a0_1 : Int) (a0_2 : Int) (a0_3 : ByteArray) (l0_4 : List Int) (l0_5 : List ByteArray) (a1 : Int) (a2 : ByteArray) : Option (Bool) := (withylaw11_Cut.f k a0_0 a0_1 a0_2 a0_3 l0_4 l0_5).bind fun bt476 => (if 0 ≤ (mn (a2.size : Int) 1100) then (if (mn (a2.size : Int) 1100) ≤ (a2.size : Int) then ((inner_Encode.f k bt476.1 bt476.2.1 bt476.2.2.1 bt476.2.2.2.1 bt476.2.2.2.2.1 bt476.2.2.2.2.2 a1).bind fun bt486 => (if bt486.2 = 0 then ((inner_Decode.f k bt486.1).bind fun bt488 => (if bt488.2.2.2.2.2.2 = 0 then ((inner_Same.f k bt488.1 bt488.2.1 bt488.2.2.1 bt488.2.2.2.1 bt488.2.2.2.2.1 bt488.2.2.2.2.2.1 bt476.1 bt476.2.1 bt476.2.2.1 bt476.2.2.2.1 bt476.2.2.2.2.1 bt476.2.2.2.2.2).bind fun t500 => (if t500 = true then (if (bt486.1.size : Int) = a1 then ((inner_May.f k bt476.1 bt476.2.1 bt476.2.2.1 bt476.2.2.2.1 bt476.2.2.2.2.1 bt476.2.2.2.2.2 a1).bind fun t501 => (if t501 = true then ((inner_Size.f k bt476.1 bt476.2.1 bt476.2.2.1 bt476.2.2.2.1 bt476.2.2.2.2.1 bt476.2.2.2.2.2).bind fun t502 => (if t502 > (wrap64 (a1 - 16)) then (none) else (withylaw11_InnerBack.j0 k (a2.extract 0 ((mn (a2.size : Int) 1100) : Int).toNat)))) else (none))) else (none)) else (none))) else (none))) else (withylaw11_InnerBack.j0 k (a2.extract 0 ((mn (a2.size : Int) 1100) : Int).toNat)))) else (none)) else (none))
theorem withylaw11_InnerBack.mono_l : ∀ k, (∀ y0, LeO (withylaw11_InnerBack.j0 k y0) (withylaw11_InnerBack.j0 (k + 1) y0))
 | 0 => fun _ r h => by simp [withylaw11_InnerBack.j0] at h
 | k + 1 => by
  have ih0 := withylaw11_InnerBack.mono_l k
  ·intro y0
   unfold withylaw11_InnerBack.j0
   repeat' first
   | (with_reducible exact ih0 _)
   | (with_reducible exact inner_Decode.mono _ _)
   | (with_reducible exact inner_Encode.mono _ _ _ _ _ _ _ _)
   | (with_reducible exact inner_May.mono _ _ _ _ _ _ _ _)
   | (with_reducible exact inner_Same.mono _ _ _ _ _ _ _ _ _ _ _ _ _)
   | (with_reducible exact inner_Size.mono _ _ _ _ _ _ _)
   | (with_reducible exact withylaw11_Cut.mono _ _ _ _ _ _ _)
   | (with_reducible exact withylaw11_fixed.mono _)
   | (with_reducible exact LeO.refl _)
   | (with_reducible exact LeO.none _)
   | (with_reducible refine LeO.ite ?_ ?_)
   | (with_reducible refine LeO.bind ?_ (fun _ => ?_))
   | exact ih0 _
   | exact inner_Decode.mono _ _
   | exact inner_Encode.mono _ _ _ _ _ _ _ _
   | exact inner_May.mono _ _ _ _ _ _ _ _
   | exact inner_Same.mono _ _ _ _ _ _ _ _ _ _ _ _ _
   | exact inner_Size.mono _ _ _ _ _ _ _
   | exact withylaw11_Cut.mono _ _ _ _ _ _ _
   | exact withylaw11_fixed.mono _
   | exact LeO.none _
   | refine LeO.ite ?_ ?_
   | refine LeO.bind ?_ (fun _ => ?_)
theorem withylaw11_InnerBack.mono : ∀ a0 a1 a2 a3 a4 a5 a6 a7 k, LeO (withylaw11_InnerBack.f k a0 a1 a2 a3 a4 a5 a6 a7) (withylaw11_InnerBack.f (k + 1) a0 a1 a2 a3 a4 a5 a6 a7) := by
 intro a0 a1 a2 a3 a4 a5 a6 a7 k
 have ih0 := withylaw11_InnerBack.mono_l k
 unfold withylaw11_InnerBack.f
 repeat' first
   | (with_reducible exact ih0 _)
   | (with_reducible exact inner_Decode.mono _ _)
   | (with_reducible exact inner_Encode.mono _ _ _ _ _ _ _ _)
   | (with_reducible exact inner_May.mono _ _ _ _ _ _ _ _)
   | (with_reducible exact inner_Same.mono _ _ _ _ _ _ _ _ _ _ _ _ _)
   | (with_reducible exact inner_Size.mono _ _ _ _ _ _ _)
   | (with_reducible exact withylaw11_Cut.mono _ _ _ _ _ _ _)
   | (with_reducible exact withylaw11_fixed.mono _)
   | (with_reducible exact LeO.refl _)
   | (with_reducible exact LeO.none _)
   | (with_reducible refine LeO.ite ?_ ?_)
   | (with_reducible refine LeO.bind ?_ (fun _ => ?_))
   | exact ih0 _
   | exact inner_Decode.mono _ _
   | exact inner_Encode.mono _ _ _ _ _ _ _ _
   | exact inner_May.mono _ _ _ _ _ _ _ _
   | exact inner_Same.mono _ _ _ _ _ _ _ _ _ _ _ _ _
   | exact inner_Size.mono _ _ _ _ _ _ _
   | exact withylaw11_Cut.mono _ _ _ _ _ _ _
   | exact withylaw11_fixed.mono _
   | exact LeO.none _
   | refine LeO.ite ?_ ?_
   | refine LeO.bind ?_ (fun _ => ?_)
set_option maxHeartbeats 8000000 in
set_option maxRecDepth 100000 in
theorem withylaw11_InnerBack.calls (k : Nat) (a0_0 : Int) (a0_1 : Int) (a0_2 : Int) (a0_3 : ByteArray) (A0_4 : Option Addr) (c0_4 : Nat) (l0_4 : List Int) (A0_5 : Option Addr) (c0_5 : Nat) (l0_5 : List ByteArray) (a1 : Int) (a2 : ByteArray) (r : Bool) (w : World) (hr0_4 : Kd.C (Kd.int .i64) w A0_4 l0_4.length l0_4) (hc0_4 : l0_4.length ≤ c0_4) (hr0_5 : Kd.C Kd.string w A0_5 l0_5.length l0_5) (hc0_5 : l0_5.length ≤ c0_5) (h : withylaw11_InnerBack.f k a0_0 a0_1 a0_2 a0_3 l0_4 l0_5 a1 a2 = some r) :
  Calls Tryz.prog 4 #[.agg #[.int .i64 a0_0, .int .i64 a0_1, .int .i64 a0_2, .string a0_3, .slice A0_4 l0_4.length c0_4, .slice A0_5 l0_5.length c0_5], .int .i64 a1, .string a2] w fun e w' => e = .returned (.bool r) ∧ Below w.heap.size w w' := by
 have hu25 := Tryz.underlying25
 have HR0_4 := Aside0.mk hr0_4
 have HC0_4 := Aside0.mk hc0_4
 clear hr0_4 hc0_4
 have HR0_5 := Aside0.mk hr0_5
 have HC0_5 := Aside0.mk hc0_5
 clear hr0_5 hc0_5
 have HB := as_ (Below.refl w.heap.size w)
 have H : ((withylaw11_Cut.f k a0_0 a0_1 a0_2 a0_3 l0_4 l0_5).bind fun bt476 => (if 0 ≤ (mn (a2.size : Int) 1100) then (if (mn (a2.size : Int) 1100) ≤ (a2.size : Int) then ((inner_Encode.f k bt476.1 bt476.2.1 bt476.2.2.1 bt476.2.2.2.1 bt476.2.2.2.2.1 bt476.2.2.2.2.2 a1).bind fun bt486 => (if bt486.2 = 0 then ((inner_Decode.f k bt486.1).bind fun bt488 => (if bt488.2.2.2.2.2.2 = 0 then ((inner_Same.f k bt488.1 bt488.2.1 bt488.2.2.1 bt488.2.2.2.1 bt488.2.2.2.2.1 bt488.2.2.2.2.2.1 bt476.1 bt476.2.1 bt476.2.2.1 bt476.2.2.2.1 bt476.2.2.2.2.1 bt476.2.2.2.2.2).bind fun t500 => (if t500 = true then (if (bt486.1.size : Int) = a1 then ((inner_May.f k bt476.1 bt476.2.1 bt476.2.2.1 bt476.2.2.2.1 bt476.2.2.2.2.1 bt476.2.2.2.2.2 a1).bind fun t501 => (if t501 = true then ((inner_Size.f k bt476.1 bt476.2.1 bt476.2.2.1 bt476.2.2.2.1 bt476.2.2.2.2.1 bt476.2.2.2.2.2).bind fun t502 => (if t502 > (wrap64 (a1 - 16)) then (none) else (withylaw11_InnerBack.j0 k (a2.extract 0 ((mn (a2.size : Int) 1100) : Int).toNat)))) else (none))) else (none)) else (none))) else (none))) else (withylaw11_InnerBack.j0 k (a2.extract 0 ((mn (a2.size : Int) 1100) : Int).toNat)))) else (none)) else (none))) = some r := h
 clear h
 obtain ⟨⟨t476, t477, t478, t479, t480, t483⟩, A4, H⟩ := bN H
 (try dsimp only at H)
 obtain ⟨ji5, hji5⟩ : ∃ j_ : Int, (mn (a2.size : Int) 1100) = j_ := ⟨_, rfl⟩
 replace H : (if 0 ≤ (ji5) then (if (ji5) ≤ (a2.size : Int) then ((inner_Encode.f k t476 t477 t478 t479 t480 t483 a1).bind fun bt486 => (if bt486.2 = 0 then ((inner_Decode.f k bt486.1).bind fun bt488 => (if bt488.2.2.2.2.2.2 = 0 then ((inner_Same.f k bt488.1 bt488.2.1 bt488.2.2.1 bt488.2.2.2.1 bt488.2.2.2.2.1 bt488.2.2.2.2.2.1 t476 t477 t478 t479 t480 t483).bind fun t500 => (if t500 = true then (if (bt486.1.size : Int) = a1 then ((inner_May.f k t476 t477 t478 t479 t480 t483 a1).bind fun t501 => (if t501 = true then ((inner_Size.f k t476 t477 t478 t479 t480 t483).bind fun t502 => (if t502 > (wrap64 (a1 - 16)) then (none) else (withylaw11_InnerBack.j0 k (a2.extract 0 ((ji5) : Int).toNat)))) else (none))) else (none)) else (none))) else (none))) else (withylaw11_InnerBack.j0 k (a2.extract 0 ((ji5) : Int).toNat)))) else (none)) else (none)) = some r := by first | (rw [hji5] at H; exact H) | (simp only [hji5] at H ⊢; exact H)
 (try rw [hji5] at A4)
 (try (have hji5h : ji5 ≤ 1100 := by (rw [← hji5]; unfold mn; (repeat' split) <;> omega)))
 (try (have hji5g : ji5 ≤ 64 := by omega))
 (try (have hji5l : 0 ≤ ji5 := by (rw [← hji5]; unfold mn; (repeat' split) <;> omega)))
 (try (have hji5m : 0 ≤ ji5 := by omega))
 have hji5_ : (if 1100 < (a2.size : Int) then 1100 else (a2.size : Int)) = ji5 := hji5
 obtain ⟨c6, H⟩ := iN (c := 0 ≤ (ji5)) H
 have c6b0 := eq_true c6
 have c6b1 := decide_eq_true c6
 clear c6
 obtain ⟨c7, H⟩ := iN (c := (ji5) ≤ (a2.size : Int)) H
 have c7b0 := eq_true c7
 have c7b1 := decide_eq_true c7
 clear c7
 obtain ⟨js8, hjs8⟩ : ∃ j_ : ByteArray, (a2.extract 0 ((ji5) : Int).toNat) = j_ := ⟨_, rfl⟩
 replace H : ((inner_Encode.f k t476 t477 t478 t479 t480 t483 a1).bind fun bt486 => (if bt486.2 = 0 then ((inner_Decode.f k bt486.1).bind fun bt488 => (if bt488.2.2.2.2.2.2 = 0 then ((inner_Same.f k bt488.1 bt488.2.1 bt488.2.2.1 bt488.2.2.2.1 bt488.2.2.2.2.1 bt488.2.2.2.2.2.1 t476 t477 t478 t479 t480 t483).bind fun t500 => (if t500 = true then (if (bt486.1.size : Int) = a1 then ((inner_May.f k t476 t477 t478 t479 t480 t483 a1).bind fun t501 => (if t501 = true then ((inner_Size.f k t476 t477 t478 t479 t480 t483).bind fun t502 => (if t502 > (wrap64 (a1 - 16)) then (none) else (withylaw11_InnerBack.j0 k js8))) else (none))) else (none)) else (none))) else (none))) else (withylaw11_InnerBack.j0 k js8))) = some r := by first | (rw [hjs8] at H; exact H) | (simp only [hjs8] at H ⊢; exact H)
 (try rw [hjs8] at A4)
 obtain ⟨⟨t486, t487⟩, A9, H⟩ := bN H
 (try dsimp only at H)
 have HC10 := Aside0.mk H
 clear H
 go_enter Tryz.func4, Tryz.ntmps4
 go_upto_if 29 with (first | ((with_reducible refine gate_dst (N := 3) rfl ?_); (try (refine gate_guard (by rfl) ?_; dsimp only)); refine box_event (by rfl) (N := 3) (by rfl) (cs := #[.int .i64 a0_0, .int .i64 a0_1, .int .i64 a0_2, .string a0_3, .slice A0_4 l0_4.length c0_4, .slice A0_5 l0_5.length c0_5]) (t := 25) gS ?_; intro gb475 hg w11 hbox hb; have BK475 := as_ (hbox); have GW475 := gw hg bA; have GE475 := gw hg bA; replace HB := as_ (below_step bA hb); clear hb hbox hg; obtain ⟨hcz12_0, hcz12_1, hcz12_2, hcz12_3, hcz12_4, hcz12_5⟩ := zc6 BK475; obtain ⟨hfz12_0, hfz12_1, hfz12_2, hfz12_3, hfz12_4, hfz12_5⟩ := zf6 BK475) | ((with_reducible refine gate_callee (f := 9) rfl ?_); refine goesL_ (some 16) rfl rfl Tryz.func9 (by kernel_rfl) rfl #[.agg #[.int .i64 a0_0, .int .i64 a0_1, .int .i64 a0_2, .string a0_3, .slice A0_4 l0_4.length c0_4, .slice A0_5 l0_5.length c0_5]] rfl aO ?_; (with_reducible refine (withylaw11_Cut.calls k a0_0 a0_1 a0_2 a0_3 _ _ l0_4 _ _ l0_5 t476 t477 t478 t479 t480 t483 _ ?side1 ?side2 ?side3 ?side4 A4.out).mono ?_); (case side1 => repeat (first | exact (Kd.C_below HR0_4.out HB.out) | (with_reducible refine Kd.C_alloc ?_ _) | (with_reducible refine Kd.C_drewN ?_ _) | (with_reducible refine Kd.C_drew ?_))); (case side2 => exact HC0_4.out); (case side3 => repeat (first | exact (Kd.C_below HR0_5.out HB.out) | (with_reducible refine Kd.C_alloc ?_ _) | (with_reducible refine Kd.C_drewN ?_ _) | (with_reducible refine Kd.C_drew ?_))); (case side4 => exact HC0_5.out); rintro e w13 ⟨v481, v484, rfl, ho0, ho1, hb⟩; refine ⟨_, rfl, ?_⟩; have HO482 := as_ (Kd.R_lower ho0 (below_size bA)); have HO485 := as_ (Kd.R_lower ho1 (below_size bA)); replace BK475 := bb BK475 hb; replace HB := as_ (below_step bA hb); (try clear hb); (try clear ho0); (try clear ho1); obtain ⟨hcz14_0, hcz14_1, hcz14_2, hcz14_3, hcz14_4, hcz14_5⟩ := zc6 BK475; obtain ⟨hfz14_0, hfz14_1, hfz14_2, hfz14_3, hfz14_4, hfz14_5⟩ := zf6 BK475; obtain ⟨Ao15, co15, eo15⟩ := Kd.R_slice HO482.out; subst eo15; obtain ⟨Ao16, co16, eo16⟩ := Kd.R_slice HO485.out; subst eo16) | ((with_reducible refine gate_callee (f := 10) rfl ?_); refine goesL_ (some 25) rfl rfl Tryz.func10 (by kernel_rfl) rfl #[.agg #[.int .i64 t476, .int .i64 t477, .int .i64 t478, .string t479, .slice Ao15 t480.length co15, .slice Ao16 t483.length co16], .int .i64 a1] rfl aO ?_; (with_reducible refine (inner_Encode.calls k t476 t477 t478 t479 _ _ t480 _ _ t483 a1 t486 t487 _ ?side1 ?side2 ?side3 ?side4 A9.out).mono ?_); (case side1 => refine (Kd.R_reads' (e := 3) (base := w.heap.size) (ok := fun k_ => True) (n := t480.length) (c := co15) ?_).2.2; exact (by (with_reducible repeat (first | apply Kd.R_alloc | apply Kd.R_drewN | apply Kd.R_drew)); exact (Kd.R_mono (Kd.R_far (p := ⟨gb475, 5, none⟩) (Kd.R_far (p := ⟨gb475, 4, none⟩) (Kd.R_far (p := ⟨gb475, 3, none⟩) (Kd.R_far (p := ⟨gb475, 2, none⟩) (Kd.R_far (p := ⟨gb475, 1, none⟩) (Kd.R_far (p := ⟨gb475, 0, none⟩) (Kd.R_types HO482.out BK475.out (by decide)) (fun _ hk => hk.2) (.int .i64 t476)) (fun _ hk => hk.2) (.int .i64 t477)) (fun _ hk => hk.2) (.int .i64 t478)) (fun _ hk => hk.2) (.string t479)) (fun _ hk => hk.2) (.slice Ao15 t480.length co15)) (fun _ hk => hk.2) (.slice Ao16 t483.length co16)) (fun _ h_ => h_.1)))); (case side2 => exact (Kd.R_reads' HO482.out).2.1); (case side3 => refine (Kd.R_reads' (e := 9) (base := w.heap.size) (ok := fun k_ => True) (n := t483.length) (c := co16) ?_).2.2; exact (by (with_reducible repeat (first | apply Kd.R_alloc | apply Kd.R_drewN | apply Kd.R_drew)); exact (Kd.R_mono (Kd.R_far (p := ⟨gb475, 5, none⟩) (Kd.R_far (p := ⟨gb475, 4, none⟩) (Kd.R_far (p := ⟨gb475, 3, none⟩) (Kd.R_far (p := ⟨gb475, 2, none⟩) (Kd.R_far (p := ⟨gb475, 1, none⟩) (Kd.R_far (p := ⟨gb475, 0, none⟩) (Kd.R_types HO485.out BK475.out (by decide)) (fun _ hk => hk.2) (.int .i64 t476)) (fun _ hk => hk.2) (.int .i64 t477)) (fun _ hk => hk.2) (.int .i64 t478)) (fun _ hk => hk.2) (.string t479)) (fun _ hk => hk.2) (.slice Ao15 t480.length co15)) (fun _ hk => hk.2) (.slice Ao16 t483.length co16)) (fun _ h_ => h_.1)))); (case side4 => exact (Kd.R_reads' HO485.out).2.1); rintro e w17 ⟨rfl, hb⟩; refine ⟨_, rfl, ?_⟩; replace HO482 := as_ (Kd.R_below (by (with_reducible repeat (first | apply Kd.R_alloc | apply Kd.R_drewN | apply Kd.R_drew)); exact (Kd.R_mono (Kd.R_far (p := ⟨gb475, 5, none⟩) (Kd.R_far (p := ⟨gb475, 4, none⟩) (Kd.R_far (p := ⟨gb475, 3, none⟩) (Kd.R_far (p := ⟨gb475, 2, none⟩) (Kd.R_far (p := ⟨gb475, 1, none⟩) (Kd.R_far (p := ⟨gb475, 0, none⟩) (Kd.R_types HO482.out BK475.out (by decide)) (fun _ hk => hk.2) (.int .i64 t476)) (fun _ hk => hk.2) (.int .i64 t477)) (fun _ hk => hk.2) (.int .i64 t478)) (fun _ hk => hk.2) (.string t479)) (fun _ hk => hk.2) (.slice Ao15 t480.length co15)) (fun _ hk => hk.2) (.slice Ao16 t483.length co16)) (fun _ h_ => h_.1))) hb); replace HO485 := as_ (Kd.R_below (by (with_reducible repeat (first | apply Kd.R_alloc | apply Kd.R_drewN | apply Kd.R_drew)); exact (Kd.R_mono (Kd.R_far (p := ⟨gb475, 5, none⟩) (Kd.R_far (p := ⟨gb475, 4, none⟩) (Kd.R_far (p := ⟨gb475, 3, none⟩) (Kd.R_far (p := ⟨gb475, 2, none⟩) (Kd.R_far (p := ⟨gb475, 1, none⟩) (Kd.R_far (p := ⟨gb475, 0, none⟩) (Kd.R_types HO485.out BK475.out (by decide)) (fun _ hk => hk.2) (.int .i64 t476)) (fun _ hk => hk.2) (.int .i64 t477)) (fun _ hk => hk.2) (.int .i64 t478)) (fun _ hk => hk.2) (.string t479)) (fun _ hk => hk.2) (.slice Ao15 t480.length co15)) (fun _ hk => hk.2) (.slice Ao16 t483.length co16)) (fun _ h_ => h_.1))) hb); replace BK475 := as_ (blk_below (g := gb475) (o := .cells #[.int .i64 t476, .int .i64 t477, .int .i64 t478, .string t479, .slice Ao15 t480.length co15, .slice Ao16 t483.length co16] 25 (0, 0)) (by refine bx ?_; refine blk_put (cs := #[.int .i64 t476, .int .i64 t477, .int .i64 t478, .string t479, .slice Ao15 t480.length co15, .slice A0_5 l0_5.length c0_5]) ?_ 5 _ rfl; refine bx ?_; refine blk_put (cs := #[.int .i64 t476, .int .i64 t477, .int .i64 t478, .string t479, .slice A0_4 l0_4.length c0_4, .slice A0_5 l0_5.length c0_5]) ?_ 4 _ rfl; refine bx ?_; refine blk_put (cs := #[.int .i64 t476, .int .i64 t477, .int .i64 t478, .string a0_3, .slice A0_4 l0_4.length c0_4, .slice A0_5 l0_5.length c0_5]) ?_ 3 _ rfl; refine bx ?_; refine blk_put (cs := #[.int .i64 t476, .int .i64 t477, .int .i64 a0_2, .string a0_3, .slice A0_4 l0_4.length c0_4, .slice A0_5 l0_5.length c0_5]) ?_ 2 _ rfl; refine bx ?_; refine blk_put (cs := #[.int .i64 t476, .int .i64 a0_1, .int .i64 a0_2, .string a0_3, .slice A0_4 l0_4.length c0_4, .slice A0_5 l0_5.length c0_5]) ?_ 1 _ rfl; refine bx ?_; refine blk_put (cs := #[.int .i64 a0_0, .int .i64 a0_1, .int .i64 a0_2, .string a0_3, .slice A0_4 l0_4.length c0_4, .slice A0_5 l0_5.length c0_5]) ?_ 0 _ rfl; refine bx ?_; exact BK475.out) hb); replace HB := as_ (below_step bA hb); (try clear hb); (try clear hi)))
 (try simp only [Act.put, List.setIfInBounds_toArray, List.set_cons_zero, List.set_cons_succ])
 go_cut [] (fun wc => ∃ (kq : Nat), Aside0 (withylaw11_InnerBack.j0 kq js8 = some r) ∧ Aside0 (kq ≤ k) ∧ Aside0 (Below w.heap.size w wc))
 case first =>
  have H := HC10.out
  clear HC10
  by_cases c18 : t487 = 0
  rotate_left
  ·rw [if_neg c18] at H
   have c18b0 := beq_eq_false_iff_ne.mpr c18
   have c18b1 := bne_iff_ne.mpr c18
   (first | rw [c18b0] | (simp only [i64_w, i32_w]; rw [c18b0]) | rw [c18b1] | skip)
   have H' := Aside0.mk H
   clear H
   go_wp2
   go_meet
   case rel => exact ⟨_, (by first | exact H' | (rw [hji5]; exact H')), ⟨by first | omega | exact Nat.le_refl _⟩, ⟨bA⟩⟩
  rw [if_pos c18] at H
  have c18b0 := beq_iff_eq.mpr c18
  have c18b1 := bne_eq_false_iff_eq.mpr c18
  clear c18
  (first | rw [c18b0] | (simp only [i64_w, i32_w]; rw [c18b0]) | rw [c18b1] | skip)
  obtain ⟨⟨t488, t489, t490, t491, t492, t495, t498⟩, A19, H⟩ := bN H
  (try dsimp only at H)
  obtain ⟨c20, H⟩ := iN (c := t498 = 0) H
  have c20b0 := beq_iff_eq.mpr c20
  have c20b1 := bne_eq_false_iff_eq.mpr c20
  clear c20
  obtain ⟨t500, A21, H⟩ := bN H
  (try dsimp only at H)
  by_cases c22 : t500 = true
  rotate_left
  ·replace c22 := Bool.eq_false_iff.mpr c22
   subst c22
   have H1 : (none) = some r := by rw [if_neg (show ¬ (false = true) by decide)] at H; exact H
   clear H
   have H := H1
   clear H1
   exact absurd H (by simp)
  subst c22
  have H1 : (if (t486.size : Int) = a1 then ((inner_May.f k t476 t477 t478 t479 t480 t483 a1).bind fun t501 => (if t501 = true then ((inner_Size.f k t476 t477 t478 t479 t480 t483).bind fun t502 => (if t502 > (wrap64 (a1 - 16)) then (none) else (withylaw11_InnerBack.j0 k js8))) else (none))) else (none)) = some r := by rw [if_pos rfl] at H; exact H
  clear H
  have H := H1
  clear H1
  obtain ⟨c23, H⟩ := iN (c := (t486.size : Int) = a1) H
  have c23b0 := beq_iff_eq.mpr c23
  have c23b1 := bne_eq_false_iff_eq.mpr c23
  clear c23
  obtain ⟨t501, A24, H⟩ := bN H
  (try dsimp only at H)
  by_cases c25 : t501 = true
  rotate_left
  ·replace c25 := Bool.eq_false_iff.mpr c25
   subst c25
   have H1 : (none) = some r := by rw [if_neg (show ¬ (false = true) by decide)] at H; exact H
   clear H
   have H := H1
   clear H1
   exact absurd H (by simp)
  subst c25
  have H1 : ((inner_Size.f k t476 t477 t478 t479 t480 t483).bind fun t502 => (if t502 > (wrap64 (a1 - 16)) then (none) else (withylaw11_InnerBack.j0 k js8))) = some r := by rw [if_pos rfl] at H; exact H
  clear H
  have H := H1
  clear H1
  obtain ⟨t502, A26, H⟩ := bN H
  (try dsimp only at H)
  by_cases c27 : t502 > (wrap64 (a1 - 16))
  ·rw [if_pos c27] at H
   exact absurd H (by simp)
  rw [if_neg c27] at H
  have c27b0 : decide ((wrap64 (a1 - 16)) < t502) = false := decide_eq_false c27
  clear c27
  have H' := Aside0.mk H
  clear H
  go_wp2_with (first | ((with_reducible refine gate_callee (f := 13) rfl ?_); refine goesL_ (some 32) rfl rfl Tryz.func13 (by kernel_rfl) rfl #[.string t486] rfl aO ?_; (with_reducible refine (inner_Decode.calls k t486 t488 t489 t490 t491 t492 t495 t498 _ A19.out).mono ?_); rintro e w28 ⟨v493, v496, rfl, ho0, ho1, hb⟩; refine ⟨_, rfl, ?_⟩; have HO494 := as_ (Kd.R_lower (Kd.R_new' (Kd.R_mono (ok' := fun k_ => True) ho0 (fun _ hk_ => trivial)) (Kd.R_lt (rD HO482))) (below_size bA)); have HO497 := as_ (Kd.V_lower (Kd.V_mono (ok' := fun k_ => some k_ ≠ (v493 : Value).ownBlock ∧ some k_ ≠ (.slice Ao15 t480.length co15 : Value).ownBlock ∧ some k_ ≠ (.slice Ao16 t483.length co16 : Value).ownBlock ∧ k_ ≠ gb475) ho1 (fun k_ hk_ => ⟨hk_.2, (Kd.fresh' (Kd.R_lt (rD HO482)) k_ hk_.1), (Kd.fresh' (Kd.R_lt (rD HO485)) k_ hk_.1), (Kd.freshB (g := gb475) (o := .cells #[.int .i64 t476, .int .i64 t477, .int .i64 t478, .string t479, .slice Ao15 t480.length co15, .slice Ao16 t483.length co16] 25 (0, 0)) (bk BK475) k_ hk_.1)⟩)) (below_size bA)); replace HO482 := as_ (Kd.R_elder' (rD HO482) (Kd.R_base ho0) hb); replace HO485 := as_ (Kd.R_below (rD HO485) hb); replace BK475 := bb BK475 hb; replace HB := as_ (below_step bA hb); have VC494 := as_ (Kd.V_mono (ok' := fun _ => True) (Kd.R_V (base' := w28.heap.size) HO494.out) (fun _ _ => trivial)); have VC497 := as_ (Kd.V_mono (ok' := fun _ => True) HO497.out (fun _ _ => trivial)); have VC482 := as_ (Kd.V_mono (ok' := fun _ => True) (Kd.R_V (base' := w28.heap.size) HO482.out) (fun _ _ => trivial)); have VC485 := as_ (Kd.V_mono (ok' := fun _ => True) (Kd.R_V (base' := w28.heap.size) HO485.out) (fun _ _ => trivial)); have HZ0 := as_ (Below.refl w28.heap.size w28); (try clear hb); (try clear ho0); (try clear ho1)) | ((with_reducible refine gate_dst (N := 9) rfl ?_); (try (refine gate_guard (by rfl) ?_; dsimp only)); refine box_event ?hg (N := 9) ?hd (cs := #[.int .i64 0, .int .i64 0, .int .i64 0, .string (⟨#[]⟩ : ByteArray), .slice none 0 0, .slice none 0 0]) (t := 25) ?hr ?_; (case hd => rfl); (case hg => rfl); (case hr => first | (go_simp; done) | (go_simp; rfl)); intro gb499 hg w29 hbox hb; have BK499 := as_ (hbox); have GW499 := gw (w := w) hg bA; have GE499 := gw (w := w) hg bA; have GZ0_499 := gw (w := w28) hg z0; have NB475_499 := nl BK475 hg; have NB499_475 := ng BK475 hg; replace BK475 := bb BK475 hb; replace HB := as_ (below_step (w := w) bA hb); replace HZ0 := as_ (below_step (w := w28) z0 hb); clear hb hbox hg; have hnb30 := NB499_475.out; have hnc30 := NB475_499.out; obtain ⟨hcz31_0, hcz31_1, hcz31_2, hcz31_3, hcz31_4, hcz31_5⟩ := zc6 BK499; obtain ⟨hfz31_0, hfz31_1, hfz31_2, hfz31_3, hfz31_4, hfz31_5⟩ := zf6 BK499; obtain ⟨Ao32, co32, eo32⟩ := Kd.V_slice VC494.out; subst eo32; obtain ⟨Ao33, co33, eo33⟩ := Kd.V_slice VC497.out; subst eo33; obtain ⟨hcz34_0, hcz34_1, hcz34_2, hcz34_3, hcz34_4, hcz34_5⟩ := zc6 BK475; obtain ⟨hfz34_0, hfz34_1, hfz34_2, hfz34_3, hfz34_4, hfz34_5⟩ := zf6 BK475) | (go_at_call 17; (with_reducible refine (inner_Same.calls k t488 t489 t490 t491 _ _ t492 _ _ t495 t476 t477 t478 t479 _ _ t480 _ _ t483 true _ ?side1 ?side2 ?side3 ?side4 ?side5 ?side6 ?side7 ?side8 A21.out).mono ?_); (case side1 => exact Kd.C_below (Kd.V_reads' VC494.out).2.2 z0); (case side2 => exact (Kd.V_reads' VC494.out).2.1); (case side3 => exact Kd.C_below (Kd.V_reads' VC497.out).2.2 z0); (case side4 => exact (Kd.V_reads' VC497.out).2.1); (case side5 => exact Kd.C_below (Kd.V_reads' VC482.out).2.2 z0); (case side6 => exact (Kd.V_reads' VC482.out).2.1); (case side7 => exact Kd.C_below (Kd.V_reads' VC485.out).2.2 z0); (case side8 => exact (Kd.V_reads' VC485.out).2.1); rintro e w35 ⟨rfl, hb⟩; replace BK475 := as_ (blk_below (g := gb475) (o := .cells #[.int .i64 t476, .int .i64 t477, .int .i64 t478, .string t479, .slice Ao15 t480.length co15, .slice Ao16 t483.length co16] 25 (0, 0)) (by refine bx ?_; refine blk_far ?_ NB475_499.out _; refine bx ?_; refine blk_far ?_ NB475_499.out _; refine bx ?_; refine blk_far ?_ NB475_499.out _; refine bx ?_; refine blk_far ?_ NB475_499.out _; refine bx ?_; refine blk_far ?_ NB475_499.out _; refine bx ?_; refine blk_far ?_ NB475_499.out _; refine bx ?_; exact BK475.out) hb); replace BK499 := as_ (blk_below (g := gb499) (o := .cells #[.int .i64 t488, .int .i64 t489, .int .i64 t490, .string t491, .slice Ao32 t492.length co32, .slice Ao33 t495.length co33] 25 (0, 0)) (by refine bx ?_; refine blk_put (cs := #[.int .i64 t488, .int .i64 t489, .int .i64 t490, .string t491, .slice Ao32 t492.length co32, .slice none 0 0]) ?_ 5 _ rfl; refine bx ?_; refine blk_put (cs := #[.int .i64 t488, .int .i64 t489, .int .i64 t490, .string t491, .slice none 0 0, .slice none 0 0]) ?_ 4 _ rfl; refine bx ?_; refine blk_put (cs := #[.int .i64 t488, .int .i64 t489, .int .i64 t490, .string (⟨#[]⟩ : ByteArray), .slice none 0 0, .slice none 0 0]) ?_ 3 _ rfl; refine bx ?_; refine blk_put (cs := #[.int .i64 t488, .int .i64 t489, .int .i64 0, .string (⟨#[]⟩ : ByteArray), .slice none 0 0, .slice none 0 0]) ?_ 2 _ rfl; refine bx ?_; refine blk_put (cs := #[.int .i64 t488, .int .i64 0, .int .i64 0, .string (⟨#[]⟩ : ByteArray), .slice none 0 0, .slice none 0 0]) ?_ 1 _ rfl; refine bx ?_; refine blk_put (cs := #[.int .i64 0, .int .i64 0, .int .i64 0, .string (⟨#[]⟩ : ByteArray), .slice none 0 0, .slice none 0 0]) ?_ 0 _ rfl; refine bx ?_; exact BK499.out) hb); replace HB := as_ (below_step (w := w) bA hb); replace HZ0 := as_ (below_step (w := w28) z0 hb); (try clear hb); obtain ⟨hcz36_0, hcz36_1, hcz36_2, hcz36_3, hcz36_4, hcz36_5⟩ := zc6 BK475; obtain ⟨hfz36_0, hfz36_1, hfz36_2, hfz36_3, hfz36_4, hfz36_5⟩ := zf6 BK475) | (go_at_call 15; (with_reducible refine (inner_May.calls k t476 t477 t478 t479 _ _ t480 _ _ t483 a1 true _ ?side1 ?side2 ?side3 ?side4 A24.out).mono ?_); (case side1 => exact Kd.C_below (Kd.V_reads' VC482.out).2.2 z0); (case side2 => exact (Kd.V_reads' VC482.out).2.1); (case side3 => exact Kd.C_below (Kd.V_reads' VC485.out).2.2 z0); (case side4 => exact (Kd.V_reads' VC485.out).2.1); rintro e w37 ⟨rfl, hb⟩; replace BK475 := bb BK475 hb; replace BK499 := bb BK499 hb; replace HB := as_ (below_step (w := w) bA hb); replace HZ0 := as_ (below_step (w := w28) z0 hb); (try clear hb); obtain ⟨hcz38_0, hcz38_1, hcz38_2, hcz38_3, hcz38_4, hcz38_5⟩ := zc6 BK475; obtain ⟨hfz38_0, hfz38_1, hfz38_2, hfz38_3, hfz38_4, hfz38_5⟩ := zf6 BK475) | (go_at_call 22; (with_reducible refine (inner_Size.calls k t476 t477 t478 t479 _ _ t480 _ _ t483 t502 _ ?side1 ?side2 ?side3 ?side4 A26.out).mono ?_); (case side1 => exact Kd.C_below (Kd.V_reads' VC482.out).2.2 z0); (case side2 => exact (Kd.V_reads' VC482.out).2.1); (case side3 => exact Kd.C_below (Kd.V_reads' VC485.out).2.2 z0); (case side4 => exact (Kd.V_reads' VC485.out).2.1); rintro e w39 ⟨rfl, hb⟩; replace BK475 := bb BK475 hb; replace BK499 := bb BK499 hb; replace HB := as_ (below_step (w := w) bA hb); replace HZ0 := as_ (below_step (w := w28) z0 hb); (try clear hb); (try clear hi)))
  go_meet
  case rel => exact ⟨_, (by first | exact H' | (rw [hji5]; exact H')), ⟨by first | omega | exact Nat.le_refl _⟩, ⟨bA⟩⟩
 case rest =>
  clear HC10
  try clear c1
  try clear c2
  try clear p2
  try clear c3
  try clear c4
  try clear c6
  try clear c6b0
  try clear c6b1
  try clear p6
  try clear c7
  try clear c7b0
  try clear c7b1
  try clear c9
  try clear c10
  try clear c13
  try clear c18
  try clear c18b0
  try clear c18b1
  try clear c20
  try clear c20b0
  try clear c20b1
  try clear c22
  try clear c23
  try clear c23b0
  try clear c23b1
  try clear c25
  try clear c27
  try clear c27b0
  try clear c30
  obtain ⟨kq, HA, HJ9, HB⟩ := hcut
  cases kq with
  | zero => exact absurd HA.out (by simp [withylaw11_InnerBack.j0])
  | succ kj9 =>
   have H := HA.out
   clear HA
   simp only [withylaw11_InnerBack.j0] at H
   obtain ⟨⟨t503, t504, t505, t506, t507, t510, t513⟩, A40, H⟩ := bN H
   (try dsimp only at H)
   by_cases c41 : t513 = 0
   rotate_left
   ·rw [if_neg c41] at H
    have c41b0 := beq_eq_false_iff_ne.mpr c41
    have c41b1 := bne_iff_ne.mpr c41
    obtain ⟨c58, H⟩ := iN (c := t513 = 3) H
    have c58b0 := beq_iff_eq.mpr c58
    have c58b1 := bne_eq_false_iff_eq.mpr c58
    clear c58
    obtain ⟨t519, A59, H⟩ := bN H
    (try dsimp only at H)
    by_cases c60 : t519 = true
    rotate_left
    ·replace c60 := Bool.eq_false_iff.mpr c60
     subst c60
     have H1 : (none) = some r := by rw [if_neg (show ¬ (false = true) by decide)] at H; exact H
     clear H
     have H := H1
     clear H1
     exact absurd H (by simp)
    subst c60
    have H1 : ((withylaw11_fixed.f kj9).bind fun t520 => (some t520)) = some r := by rw [if_pos rfl] at H; exact H
    clear H
    have H := H1
    clear H1
    obtain ⟨t520, A61, H⟩ := bN H
    (try dsimp only at H)
    obtain rfl := Option.some.inj H
    go_wp2_with (first | ((with_reducible refine gate_callee (f := 13) rfl ?_); refine goesL_ (some 64) rfl rfl Tryz.func13 (by kernel_rfl) rfl #[.string js8] rfl aO ?_; (with_reducible refine (inner_Decode.calls kj9 js8 t503 t504 t505 t506 t507 t510 t513 _ A40.out).mono ?_); rintro e w62 ⟨v508, v511, rfl, ho0, ho1, hb⟩; refine ⟨_, rfl, ?_⟩; have HO509 := as_ (Kd.V_lower (Kd.V_mono (ok' := fun _ => True) (Kd.R_V (base' := w62.heap.size) ho0) (fun _ _ => trivial)) (Nat.le_refl _)); have HO512 := as_ (Kd.V_lower (Kd.V_mono (ok' := fun _ => True) ho1 (fun _ _ => trivial)) (Nat.le_refl _)); replace HB := as_ (below_step bA hb); have VC509 := as_ (Kd.V_mono (ok' := fun _ => True) HO509.out (fun _ _ => trivial)); have VC512 := as_ (Kd.V_mono (ok' := fun _ => True) HO512.out (fun _ _ => trivial)); have HZ0 := as_ (Below.refl w62.heap.size w62); (try clear hb); (try clear ho0); (try clear ho1)) | ((with_reducible refine gate_dst (N := 11) rfl ?_); (try (refine gate_guard (by rfl) ?_; dsimp only)); refine box_event ?hg (N := 11) ?hd (cs := #[.int .i64 0, .int .i64 0, .int .i64 0, .string (⟨#[]⟩ : ByteArray), .slice none 0 0, .slice none 0 0]) (t := 25) ?hr ?_; (case hd => rfl); (case hg => rfl); (case hr => first | (go_simp; done) | (go_simp; rfl)); intro gb514 hg w63 hbox hb; have BK514 := as_ (hbox); have GW514 := gw (w := w) hg bA; have GE514 := gw (w := w) hg bA; have GZ0_514 := gw (w := w62) hg z0; replace HB := as_ (below_step (w := w) bA hb); replace HZ0 := as_ (below_step (w := w62) z0 hb); clear hb hbox hg; obtain ⟨hcz65_0, hcz65_1, hcz65_2, hcz65_3, hcz65_4, hcz65_5⟩ := zc6 BK514; obtain ⟨hfz65_0, hfz65_1, hfz65_2, hfz65_3, hfz65_4, hfz65_5⟩ := zf6 BK514; obtain ⟨Ao66, co66, eo66⟩ := Kd.V_slice VC509.out; subst eo66; obtain ⟨Ao67, co67, eo67⟩ := Kd.V_slice VC512.out; subst eo67) | (go_at_call 17; (with_reducible show Calls _ _ #[_, _] _ _); (refine (inner_Same.calls kj9 t503 t504 t505 t506 _ _ t507 _ _ t510 0 0 0 (⟨#[]⟩ : ByteArray) _ _ ([] : List Int) _ _ ([] : List ByteArray) true _ ?side1 ?side2 ?side3 ?side4 ?side5 ?side6 ?side7 ?side8 A59.out).mono ?_); (case side1 => exact Kd.C_below (Kd.V_reads' VC509.out).2.2 z0); (case side2 => exact (Kd.V_reads' VC509.out).2.1); (case side3 => exact Kd.C_below (Kd.V_reads' VC512.out).2.2 z0); (case side4 => exact (Kd.V_reads' VC512.out).2.1); (case side5 => exact Kd.C_nil _ _); (case side6 => exact Nat.le_refl _); (case side7 => exact Kd.C_nil _ _); (case side8 => exact Nat.le_refl _); rintro e w68 ⟨rfl, hb⟩; replace BK514 := as_ (blk_below (g := gb514) (o := .cells #[.int .i64 t503, .int .i64 t504, .int .i64 t505, .string t506, .slice Ao66 t507.length co66, .slice Ao67 t510.length co67] 25 (0, 0)) (by refine bx ?_; refine blk_put (cs := #[.int .i64 t503, .int .i64 t504, .int .i64 t505, .string t506, .slice Ao66 t507.length co66, .slice none 0 0]) ?_ 5 _ rfl; refine bx ?_; refine blk_put (cs := #[.int .i64 t503, .int .i64 t504, .int .i64 t505, .string t506, .slice none 0 0, .slice none 0 0]) ?_ 4 _ rfl; refine bx ?_; refine blk_put (cs := #[.int .i64 t503, .int .i64 t504, .int .i64 t505, .string (⟨#[]⟩ : ByteArray), .slice none 0 0, .slice none 0 0]) ?_ 3 _ rfl; refine bx ?_; refine blk_put (cs := #[.int .i64 t503, .int .i64 t504, .int .i64 0, .string (⟨#[]⟩ : ByteArray), .slice none 0 0, .slice none 0 0]) ?_ 2 _ rfl; refine bx ?_; refine blk_put (cs := #[.int .i64 t503, .int .i64 0, .int .i64 0, .string (⟨#[]⟩ : ByteArray), .slice none 0 0, .slice none 0 0]) ?_ 1 _ rfl; refine bx ?_; refine blk_put (cs := #[.int .i64 0, .int .i64 0, .int .i64 0, .string (⟨#[]⟩ : ByteArray), .slice none 0 0, .slice none 0 0]) ?_ 0 _ rfl; refine bx ?_; exact BK514.out) hb); replace HB := as_ (below_step (w := w) bA hb); replace HZ0 := as_ (below_step (w := w62) z0 hb); (try clear hb); (try clear hi)) | (go_at_call 19; (with_reducible refine (withylaw11_fixed.calls kj9  t520 _ A61.out).mono ?_); rintro e w69 ⟨rfl, hb⟩; replace BK514 := bb BK514 hb; replace HB := as_ (below_step (w := w) bA hb); replace HZ0 := as_ (below_step (w := w62) z0 hb); (try clear hb); (try clear hi)))
    go_ret
    exact ⟨by first | rfl | (simp [errW_none, errW_some] <;> rfl) | (simp only [← hji5, ← hjs8]; first | rfl | (simp [errW_none, errW_some] <;> rfl)) | (simp [*, errW_none, errW_some] <;> rfl), bA⟩
   rw [if_pos c41] at H
   have c41b0 := beq_iff_eq.mpr c41
   have c41b1 := bne_eq_false_iff_eq.mpr c41
   clear c41
   obtain ⟨⟨t515, t516⟩, A42, H⟩ := bN H
   (try dsimp only at H)
   obtain ⟨c43, H⟩ := iN (c := t516 = 0) H
   have c43b0 := beq_iff_eq.mpr c43
   have c43b1 := bne_eq_false_iff_eq.mpr c43
   clear c43
   obtain ⟨c44, H⟩ := iN (c := t515.toList = js8.toList) H
   have c44b0 := beq_iff_eq.mpr c44
   have c44b1 := bne_eq_false_iff_eq.mpr c44
   clear c44
   obtain ⟨t517, A45, H⟩ := bN H
   (try dsimp only at H)
   by_cases c46 : t517 = true
   rotate_left
   ·replace c46 := Bool.eq_false_iff.mpr c46
    subst c46
    have H1 : (none) = some r := by rw [if_neg (show ¬ (false = true) by decide)] at H; exact H
    clear H
    have H := H1
    clear H1
    exact absurd H (by simp)
   subst c46
   have H1 : ((withylaw11_fixed.f kj9).bind fun t518 => (some t518)) = some r := by rw [if_pos rfl] at H; exact H
   clear H
   have H := H1
   clear H1
   obtain ⟨t518, A47, H⟩ := bN H
   (try dsimp only at H)
   obtain rfl := Option.some.inj H
   go_wp2_with (first | ((with_reducible refine gate_callee (f := 13) rfl ?_); refine goesL_ (some 64) rfl rfl Tryz.func13 (by kernel_rfl) rfl #[.string js8] rfl aO ?_; (with_reducible refine (inner_Decode.calls kj9 js8 t503 t504 t505 t506 t507 t510 t513 _ A40.out).mono ?_); rintro e w48 ⟨v508, v511, rfl, ho0, ho1, hb⟩; refine ⟨_, rfl, ?_⟩; have HO509 := as_ (Kd.V_lower (Kd.V_mono (ok' := fun _ => True) (Kd.R_V (base' := w48.heap.size) ho0) (fun _ _ => trivial)) (Nat.le_refl _)); have HO512 := as_ (Kd.V_lower (Kd.V_mono (ok' := fun _ => True) ho1 (fun _ _ => trivial)) (Nat.le_refl _)); replace HB := as_ (below_step bA hb); have VC509 := as_ (Kd.V_mono (ok' := fun _ => True) HO509.out (fun _ _ => trivial)); have VC512 := as_ (Kd.V_mono (ok' := fun _ => True) HO512.out (fun _ _ => trivial)); have HZ0 := as_ (Below.refl w48.heap.size w48); (try clear hb); (try clear ho0); (try clear ho1)) | ((with_reducible refine gate_dst (N := 11) rfl ?_); (try (refine gate_guard (by rfl) ?_; dsimp only)); refine box_event ?hg (N := 11) ?hd (cs := #[.int .i64 0, .int .i64 0, .int .i64 0, .string (⟨#[]⟩ : ByteArray), .slice none 0 0, .slice none 0 0]) (t := 25) ?hr ?_; (case hd => rfl); (case hg => rfl); (case hr => first | (go_simp; done) | (go_simp; rfl)); intro gb514 hg w49 hbox hb; have BK514 := as_ (hbox); have GW514 := gw (w := w) hg bA; have GE514 := gw (w := w) hg bA; have GZ0_514 := gw (w := w48) hg z0; replace HB := as_ (below_step (w := w) bA hb); replace HZ0 := as_ (below_step (w := w48) z0 hb); clear hb hbox hg; obtain ⟨hcz51_0, hcz51_1, hcz51_2, hcz51_3, hcz51_4, hcz51_5⟩ := zc6 BK514; obtain ⟨hfz51_0, hfz51_1, hfz51_2, hfz51_3, hfz51_4, hfz51_5⟩ := zf6 BK514; obtain ⟨Ao52, co52, eo52⟩ := Kd.V_slice VC509.out; subst eo52; obtain ⟨Ao53, co53, eo53⟩ := Kd.V_slice VC512.out; subst eo53) | ((with_reducible refine gate_callee (f := 10) rfl ?_); refine goesL_ (some 83) rfl rfl Tryz.func10 (by kernel_rfl) rfl #[.agg #[.int .i64 t503, .int .i64 t504, .int .i64 t505, .string t506, .slice Ao52 t507.length co52, .slice Ao53 t510.length co53], .int .i64 (js8.size : Int)] rfl aO ?_; (with_reducible refine (inner_Encode.calls kj9 t503 t504 t505 t506 _ _ t507 _ _ t510 (js8.size : Int) t515 t516 _ ?side1 ?side2 ?side3 ?side4 A42.out).mono ?_); (case side1 => exact Kd.C_below (Kd.V_reads' VC509.out).2.2 z0); (case side2 => exact (Kd.V_reads' VC509.out).2.1); (case side3 => exact Kd.C_below (Kd.V_reads' VC512.out).2.2 z0); (case side4 => exact (Kd.V_reads' VC512.out).2.1); rintro e w54 ⟨rfl, hb⟩; refine ⟨_, rfl, ?_⟩; replace BK514 := as_ (blk_below (g := gb514) (o := .cells #[.int .i64 t503, .int .i64 t504, .int .i64 t505, .string t506, .slice Ao52 t507.length co52, .slice Ao53 t510.length co53] 25 (0, 0)) (by refine bx ?_; refine blk_put (cs := #[.int .i64 t503, .int .i64 t504, .int .i64 t505, .string t506, .slice Ao52 t507.length co52, .slice none 0 0]) ?_ 5 _ rfl; refine bx ?_; refine blk_put (cs := #[.int .i64 t503, .int .i64 t504, .int .i64 t505, .string t506, .slice none 0 0, .slice none 0 0]) ?_ 4 _ rfl; refine bx ?_; refine blk_put (cs := #[.int .i64 t503, .int .i64 t504, .int .i64 t505, .string (⟨#[]⟩ : ByteArray), .slice none 0 0, .slice none 0 0]) ?_ 3 _ rfl; refine bx ?_; refine blk_put (cs := #[.int .i64 t503, .int .i64 t504, .int .i64 0, .string (⟨#[]⟩ : ByteArray), .slice none 0 0, .slice none 0 0]) ?_ 2 _ rfl; refine bx ?_; refine blk_put (cs := #[.int .i64 t503, .int .i64 0, .int .i64 0, .string (⟨#[]⟩ : ByteArray), .slice none 0 0, .slice none 0 0]) ?_ 1 _ rfl; refine bx ?_; refine blk_put (cs := #[.int .i64 0, .int .i64 0, .int .i64 0, .string (⟨#[]⟩ : ByteArray), .slice none 0 0, .slice none 0 0]) ?_ 0 _ rfl; refine bx ?_; exact BK514.out) hb); replace HB := as_ (below_step (w := w) bA hb); replace HZ0 := as_ (below_step (w := w48) z0 hb); (try clear hb); obtain ⟨hcz55_0, hcz55_1, hcz55_2, hcz55_3, hcz55_4, hcz55_5⟩ := zc6 BK514; obtain ⟨hfz55_0, hfz55_1, hfz55_2, hfz55_3, hfz55_4, hfz55_5⟩ := zf6 BK514) | (go_at_call 15; (with_reducible refine (inner_May.calls kj9 t503 t504 t505 t506 _ _ t507 _ _ t510 (js8.size : Int) true _ ?side1 ?side2 ?side3 ?side4 A45.out).mono ?_); (case side1 => exact Kd.C_below (Kd.V_reads' VC509.out).2.2 z0); (case side2 => exact (Kd.V_reads' VC509.out).2.1); (case side3 => exact Kd.C_below (Kd.V_reads' VC512.out).2.2 z0); (case side4 => exact (Kd.V_reads' VC512.out).2.1); rintro e w56 ⟨rfl, hb⟩; replace BK514 := bb BK514 hb; replace HB := as_ (below_step (w := w) bA hb); replace HZ0 := as_ (below_step (w := w48) z0 hb); (try clear hb); (try clear hi)) | (go_at_call 19; (with_reducible refine (withylaw11_fixed.calls kj9  t518 _ A47.out).mono ?_); rintro e w57 ⟨rfl, hb⟩; replace BK514 := bb BK514 hb; replace HB := as_ (below_step (w := w) bA hb); replace HZ0 := as_ (below_step (w := w48) z0 hb); (try clear hb); (try clear hi)))
   go_ret
   exact ⟨by first | rfl | (simp [errW_none, errW_some] <;> rfl) | (simp only [← hji5, ← hjs8]; first | rfl | (simp [errW_none, errW_some] <;> rfl)) | (simp [*, errW_none, errW_some] <;> rfl), bA⟩
end Go.Proofs.YtafebmhmcdnhkaaGreat.P
