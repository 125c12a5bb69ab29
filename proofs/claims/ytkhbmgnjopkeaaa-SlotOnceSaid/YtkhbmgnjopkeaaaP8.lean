/- What is proved here: for functions of the Go text, a Lean function each, and that the call comes to just what it answers. Conditions: as each contract names them. Written by wip/tools/myprint.py, a driver of the print of the kit. -/
import Derived.Test.YtkhbmgnjopkeaaaP0
import Derived.Test.YtkhbmgnjopkeaaaP2
import Derived.Test.YtkhbmgnjopkeaaaP4
import Derived.Test.YtkhbmgnjopkeaaaP6
namespace Go.Proofs.Ytkhbmgnjopkeaaa.P
open Go.RowKit Go.Proofs.YtkhbmgnjopkeaaaW.PrintWords Go.Proofs.YtkhbmgnjopkeaaaW.PrintLast Go.Proofs.YtkhbmgnjopkeaaaW.PrintMore
attribute [local go_sem] max2_int min2_int max_two min_two max_three min_three max_four min_four Go.Proofs.YtkhbmgnjopkeaaaLaws.str_leq Go.Proofs.YtkhbmgnjopkeaaaLaws.str_gtr Go.Proofs.YtkhbmgnjopkeaaaLaws.str_geq Go.Proofs.YtkhbmgnjopkeaaaLaws.max2_str Go.Proofs.YtkhbmgnjopkeaaaLaws.min2_str   -- for this text's walks alone
set_option linter.unusedVariables false
set_option linter.unusedSimpArgs false

/-! ### withylaw08_SlotOnce: function 5 -/
def withylaw08_SlotOnce.f (k : Nat) (a0_0 : ByteArray) (a0_1 : Int) (a0_2 : Int) : Option (Bool) := if 0 ≤ (mn (a0_0.size : Int) 300) then (if (mn (a0_0.size : Int) 300) ≤ (a0_0.size : Int) then ((slot_Unpack.f k (a0_0.extract 0 ((mn (a0_0.size : Int) 300) : Int).toNat) a0_1 a0_2).bind fun bt230 => (if bt230.2 = 0 then (if 0 ≤ (mn a0_1 ((a0_0.extract 0 ((mn (a0_0.size : Int) 300) : Int).toNat).size : Int)) then (if (mn a0_1 ((a0_0.extract 0 ((mn (a0_0.size : Int) 300) : Int).toNat).size : Int)) ≤ ((a0_0.extract 0 ((mn (a0_0.size : Int) 300) : Int).toNat).size : Int) then ((slot_Pack.f k ((a0_0.extract 0 ((mn (a0_0.size : Int) 300) : Int).toNat).size : Int) ((a0_0.extract 0 ((mn (a0_0.size : Int) 300) : Int).toNat).extract 0 ((mn a0_1 ((a0_0.extract 0 ((mn (a0_0.size : Int) 300) : Int).toNat).size : Int)) : Int).toNat) bt230.1).bind fun bt234 => (if (bt230.1.length : Int) = a0_2 then (if bt234.2 = 0 then (if bt234.1.toList = (a0_0.extract 0 ((mn (a0_0.size : Int) 300) : Int).toNat).toList then ((withylaw08_fixed.f k).bind fun t236 => (some t236)) else (none)) else (none)) else (none))) else (none)) else (none)) else (if (bt230.1.length : Int) = 0 then (if a0_1 < 0 then (if ((bt230.2 == 4) == true) = true then ((withylaw08_fixed.f k).bind fun t237 => (some t237)) else (none)) else (if ((bt230.2 == 4) == (decide (a0_2 < 0))) = true then ((withylaw08_fixed.f k).bind fun t238 => (some t238)) else (none))) else (none)))) else (none)) else (none)
theorem withylaw08_SlotOnce.mono : ∀ a0 a1 a2 k, LeO (withylaw08_SlotOnce.f k a0 a1 a2) (withylaw08_SlotOnce.f (k + 1) a0 a1 a2) := by
  intro a0 a1 a2 k
  unfold withylaw08_SlotOnce.f
  repeat' first
      | (with_reducible exact slot_Pack.mono _ _ _ _)
      | (with_reducible exact slot_Unpack.mono _ _ _ _)
      | (with_reducible exact withylaw08_fixed.mono _)
      | (with_reducible exact LeO.refl _)
      | (with_reducible exact LeO.none _)
      | (with_reducible refine LeO.ite ?_ ?_)
      | (with_reducible refine LeO.bind ?_ (fun _ => ?_))
      | exact slot_Pack.mono _ _ _ _
      | exact slot_Unpack.mono _ _ _ _
      | exact withylaw08_fixed.mono _
      | exact LeO.none _
      | refine LeO.ite ?_ ?_
      | refine LeO.bind ?_ (fun _ => ?_)
set_option maxHeartbeats 8000000 in
set_option maxRecDepth 100000 in
theorem withylaw08_SlotOnce.calls (k : Nat) (a0_0 : ByteArray) (a0_1 : Int) (a0_2 : Int) (r : Bool) (w : World) (h : withylaw08_SlotOnce.f k a0_0 a0_1 a0_2 = some r) :
    Calls Try.prog 5 #[.agg #[.string a0_0, .int .i64 a0_1, .int .i64 a0_2]] w fun e w' => e = .returned (.bool r) ∧ Below w.heap.size w w' := by
  have hu26 := Try.underlying26
  have HB := Aside0.mk (Below.refl w.heap.size w)
  have H : (if 0 ≤ (mn (a0_0.size : Int) 300) then (if (mn (a0_0.size : Int) 300) ≤ (a0_0.size : Int) then ((slot_Unpack.f k (a0_0.extract 0 ((mn (a0_0.size : Int) 300) : Int).toNat) a0_1 a0_2).bind fun bt230 => (if bt230.2 = 0 then (if 0 ≤ (mn a0_1 ((a0_0.extract 0 ((mn (a0_0.size : Int) 300) : Int).toNat).size : Int)) then (if (mn a0_1 ((a0_0.extract 0 ((mn (a0_0.size : Int) 300) : Int).toNat).size : Int)) ≤ ((a0_0.extract 0 ((mn (a0_0.size : Int) 300) : Int).toNat).size : Int) then ((slot_Pack.f k ((a0_0.extract 0 ((mn (a0_0.size : Int) 300) : Int).toNat).size : Int) ((a0_0.extract 0 ((mn (a0_0.size : Int) 300) : Int).toNat).extract 0 ((mn a0_1 ((a0_0.extract 0 ((mn (a0_0.size : Int) 300) : Int).toNat).size : Int)) : Int).toNat) bt230.1).bind fun bt234 => (if (bt230.1.length : Int) = a0_2 then (if bt234.2 = 0 then (if bt234.1.toList = (a0_0.extract 0 ((mn (a0_0.size : Int) 300) : Int).toNat).toList then ((withylaw08_fixed.f k).bind fun t236 => (some t236)) else (none)) else (none)) else (none))) else (none)) else (none)) else (if (bt230.1.length : Int) = 0 then (if a0_1 < 0 then (if ((bt230.2 == 4) == true) = true then ((withylaw08_fixed.f k).bind fun t237 => (some t237)) else (none)) else (if ((bt230.2 == 4) == (decide (a0_2 < 0))) = true then ((withylaw08_fixed.f k).bind fun t238 => (some t238)) else (none))) else (none)))) else (none)) else (none)) = some r := h
  clear h
  obtain ⟨ji2, hji2⟩ : ∃ j_ : Int, (mn (a0_0.size : Int) 300) = j_ := ⟨_, rfl⟩
  replace H : (if 0 ≤ (ji2) then (if (ji2) ≤ (a0_0.size : Int) then ((slot_Unpack.f k (a0_0.extract 0 ((ji2) : Int).toNat) a0_1 a0_2).bind fun bt230 => (if bt230.2 = 0 then (if 0 ≤ (mn a0_1 ((a0_0.extract 0 ((ji2) : Int).toNat).size : Int)) then (if (mn a0_1 ((a0_0.extract 0 ((ji2) : Int).toNat).size : Int)) ≤ ((a0_0.extract 0 ((ji2) : Int).toNat).size : Int) then ((slot_Pack.f k ((a0_0.extract 0 ((ji2) : Int).toNat).size : Int) ((a0_0.extract 0 ((ji2) : Int).toNat).extract 0 ((mn a0_1 ((a0_0.extract 0 ((ji2) : Int).toNat).size : Int)) : Int).toNat) bt230.1).bind fun bt234 => (if (bt230.1.length : Int) = a0_2 then (if bt234.2 = 0 then (if bt234.1.toList = (a0_0.extract 0 ((ji2) : Int).toNat).toList then ((withylaw08_fixed.f k).bind fun t236 => (some t236)) else (none)) else (none)) else (none))) else (none)) else (none)) else (if (bt230.1.length : Int) = 0 then (if a0_1 < 0 then (if ((bt230.2 == 4) == true) = true then ((withylaw08_fixed.f k).bind fun t237 => (some t237)) else (none)) else (if ((bt230.2 == 4) == (decide (a0_2 < 0))) = true then ((withylaw08_fixed.f k).bind fun t238 => (some t238)) else (none))) else (none)))) else (none)) else (none)) = some r := by first | (rw [hji2] at H; exact H) | (simp only [hji2] at H ⊢; exact H)
  (try (have hji2h : ji2 ≤ 300 := by (rw [← hji2]; unfold mn; (repeat' split) <;> omega)))
  (try (have hji2g : ji2 ≤ 64 := by omega))
  (try (have hji2l : 0 ≤ ji2 := by (rw [← hji2]; unfold mn; (repeat' split) <;> omega)))
  (try (have hji2m : 0 ≤ ji2 := by omega))
  have hji2_ : (if 300 < (a0_0.size : Int) then 300 else (a0_0.size : Int)) = ji2 := hji2
  by_cases c3 : 0 ≤ (ji2)
  · rw [if_pos c3] at H
    have c3b0 := eq_true c3
    have c3b1 : decide (0 ≤ (ji2)) = true := decide_eq_true c3
    clear c3
    by_cases c4 : (ji2) ≤ (a0_0.size : Int)
    · rw [if_pos c4] at H
      have c4b0 := eq_true c4
      have c4b1 : decide ((ji2) ≤ (a0_0.size : Int)) = true := decide_eq_true c4
      clear c4
      obtain ⟨js5, hjs5⟩ : ∃ j_ : ByteArray, (a0_0.extract 0 ((ji2) : Int).toNat) = j_ := ⟨_, rfl⟩
      replace H : ((slot_Unpack.f k (js5) a0_1 a0_2).bind fun bt230 => (if bt230.2 = 0 then (if 0 ≤ (mn a0_1 ((js5).size : Int)) then (if (mn a0_1 ((js5).size : Int)) ≤ ((js5).size : Int) then ((slot_Pack.f k ((js5).size : Int) ((js5).extract 0 ((mn a0_1 ((js5).size : Int)) : Int).toNat) bt230.1).bind fun bt234 => (if (bt230.1.length : Int) = a0_2 then (if bt234.2 = 0 then (if bt234.1.toList = (js5).toList then ((withylaw08_fixed.f k).bind fun t236 => (some t236)) else (none)) else (none)) else (none))) else (none)) else (none)) else (if (bt230.1.length : Int) = 0 then (if a0_1 < 0 then (if ((bt230.2 == 4) == true) = true then ((withylaw08_fixed.f k).bind fun t237 => (some t237)) else (none)) else (if ((bt230.2 == 4) == (decide (a0_2 < 0))) = true then ((withylaw08_fixed.f k).bind fun t238 => (some t238)) else (none))) else (none)))) = some r := by first | (rw [hjs5] at H; exact H) | (simp only [hjs5] at H ⊢; exact H)
      replace H := Option.bind_eq_some_iff.mp H
      obtain ⟨⟨t230, t231⟩, A60, H⟩ := H
      replace H : (if t231 = 0 then (if 0 ≤ (mn a0_1 ((js5).size : Int)) then (if (mn a0_1 ((js5).size : Int)) ≤ ((js5).size : Int) then ((slot_Pack.f k ((js5).size : Int) ((js5).extract 0 ((mn a0_1 ((js5).size : Int)) : Int).toNat) t230).bind fun bt234 => (if (t230.length : Int) = a0_2 then (if bt234.2 = 0 then (if bt234.1.toList = (js5).toList then ((withylaw08_fixed.f k).bind fun t236 => (some t236)) else (none)) else (none)) else (none))) else (none)) else (none)) else (if (t230.length : Int) = 0 then (if a0_1 < 0 then (if ((t231 == 4) == true) = true then ((withylaw08_fixed.f k).bind fun t237 => (some t237)) else (none)) else (if ((t231 == 4) == (decide (a0_2 < 0))) = true then ((withylaw08_fixed.f k).bind fun t238 => (some t238)) else (none))) else (none))) = some r := H
      have A6 := Aside0.mk A60
      clear A60
      by_cases c7 : t231 = 0
      · rw [if_pos c7] at H
        have c7b0 : (t231 == 0) = true := beq_iff_eq.mpr c7
        have c7b1 : (t231 != 0) = false := bne_eq_false_iff_eq.mpr c7
        clear c7
        obtain ⟨ji8, hji8⟩ : ∃ j_ : Int, (mn a0_1 ((js5).size : Int)) = j_ := ⟨_, rfl⟩
        replace H : (if 0 ≤ (ji8) then (if (ji8) ≤ ((js5).size : Int) then ((slot_Pack.f k ((js5).size : Int) ((js5).extract 0 ((ji8) : Int).toNat) t230).bind fun bt234 => (if (t230.length : Int) = a0_2 then (if bt234.2 = 0 then (if bt234.1.toList = (js5).toList then ((withylaw08_fixed.f k).bind fun t236 => (some t236)) else (none)) else (none)) else (none))) else (none)) else (none)) = some r := by first | (rw [hji8] at H; exact H) | (simp only [hji8] at H ⊢; exact H)
        (try rw [hji8] at A6)
        have hji8_ : (if ((js5).size : Int) < a0_1 then ((js5).size : Int) else a0_1) = ji8 := hji8
        by_cases c9 : 0 ≤ (ji8)
        · rw [if_pos c9] at H
          have c9b0 := eq_true c9
          have c9b1 : decide (0 ≤ (ji8)) = true := decide_eq_true c9
          clear c9
          by_cases c10 : (ji8) ≤ ((js5).size : Int)
          · rw [if_pos c10] at H
            have c10b0 := eq_true c10
            have c10b1 : decide ((ji8) ≤ ((js5).size : Int)) = true := decide_eq_true c10
            clear c10
            obtain ⟨js11, hjs11⟩ : ∃ j_ : ByteArray, ((js5).extract 0 ((ji8) : Int).toNat) = j_ := ⟨_, rfl⟩
            replace H : ((slot_Pack.f k ((js5).size : Int) (js11) t230).bind fun bt234 => (if (t230.length : Int) = a0_2 then (if bt234.2 = 0 then (if bt234.1.toList = (js5).toList then ((withylaw08_fixed.f k).bind fun t236 => (some t236)) else (none)) else (none)) else (none))) = some r := by first | (rw [hjs11] at H; exact H) | (simp only [hjs11] at H ⊢; exact H)
            (try rw [hjs11] at A6)
            replace H := Option.bind_eq_some_iff.mp H
            obtain ⟨⟨t234, t235⟩, A120, H⟩ := H
            replace H : (if (t230.length : Int) = a0_2 then (if t235 = 0 then (if t234.toList = (js5).toList then ((withylaw08_fixed.f k).bind fun t236 => (some t236)) else (none)) else (none)) else (none)) = some r := H
            have A12 := Aside0.mk A120
            clear A120
            by_cases c13 : (t230.length : Int) = a0_2
            · rw [if_pos c13] at H
              have c13b0 : ((t230.length : Int) == a0_2) = true := beq_iff_eq.mpr c13
              have c13b1 : ((t230.length : Int) != a0_2) = false := bne_eq_false_iff_eq.mpr c13
              clear c13
              by_cases c14 : t235 = 0
              · rw [if_pos c14] at H
                have c14b0 : (t235 == 0) = true := beq_iff_eq.mpr c14
                have c14b1 : (t235 != 0) = false := bne_eq_false_iff_eq.mpr c14
                clear c14
                by_cases c15 : t234.toList = (js5).toList
                · rw [if_pos c15] at H
                  have c15b0 : (t234.toList == (js5).toList) = true := beq_iff_eq.mpr c15
                  have c15b1 : (t234.toList != (js5).toList) = false := bne_eq_false_iff_eq.mpr c15
                  clear c15
                  replace H := Option.bind_eq_some_iff.mp H
                  obtain ⟨t236, A160, H⟩ := H
                  replace H : (some t236) = some r := H
                  have A16 := Aside0.mk A160
                  clear A160
                  obtain rfl := Option.some.inj H
                  go_enter Try.func5, Try.ntmps5
                  go_wp2_with (first | ((with_reducible refine gate_dst (N := 1) rfl ?_); refine box_event ?hg (N := 1) ?hd (cs := #[.string a0_0, .int .i64 a0_1, .int .i64 a0_2]) (t := 26) ?hr ?_; (case hd => rfl); (case hg => rfl); (case hr => first | (go_simp; done) | (go_simp; rfl)); intro gb229 hg w17 hbox hb; have n0_ := Aside0.mk (below_step (by repeat (first | (with_reducible first | exact HB.out | apply below_alloc | apply pw_below_drewN | apply below_drew1) | exact HB.out)) hb); have n1_ := Aside0.mk (hbox); have n2_ := Aside0.mk ((by rw [hg]; exact (below_size (by repeat (first | (with_reducible first | exact HB.out | apply below_alloc | apply pw_below_drewN | apply below_drew1) | exact HB.out))) : w.heap.size ≤ gb229)); have n3_ := Aside0.mk ((by rw [hg]; exact (below_size (by repeat (first | (with_reducible first | exact HB.out | apply below_alloc | apply pw_below_drewN | apply below_drew1) | exact HB.out))) : w.heap.size ≤ gb229)); clear HB; have HB := n0_; have BK229 := n1_; have GW229 := n2_; have GE229 := n3_; clear n0_ n1_ n2_ n3_; clear hb hbox hg; have hcz18_0 : w17.cell? ⟨gb229, 0, none⟩ = some (.string a0_0) := (blk_cell BK229.out 0).trans rfl; have hcz18_1 : w17.cell? ⟨gb229, 1, none⟩ = some (.int .i64 a0_1) := (blk_cell BK229.out 1).trans rfl; have hcz18_2 : w17.cell? ⟨gb229, 2, none⟩ = some (.int .i64 a0_2) := (blk_cell BK229.out 2).trans rfl; have hfz18_0 := blk_frozen BK229.out 0; have hfz18_1 := blk_frozen BK229.out 1; have hfz18_2 := blk_frozen BK229.out 2) | ((with_reducible refine gate_callee (f := 11) rfl ?_); refine goesL_ (some 21) rfl rfl Try.func11 (by kernel_rfl) rfl #[.string js5, .int .i64 a0_1, .int .i64 a0_2] rfl (by (try simp only [List.map_toArray, List.map_cons, List.map_nil]); first | done | rfl | (simp only [List.length_drop, List.length_take]; rfl)) ?_; (with_reducible refine (slot_Unpack.calls k js5 a0_1 a0_2 t230 t231 _ A6.out).mono ?_); rintro e w19 ⟨v232, rfl, ho0, hb⟩; refine ⟨_, rfl, ?_⟩; have n0_ := Aside0.mk (Kd.R_lower ho0 (below_size (by repeat (first | (with_reducible first | exact HB.out | apply below_alloc | apply pw_below_drewN | apply below_drew1 | refine below_set ?_ GE229.out) | exact HB.out)))); have n1_ := Aside0.mk (blk_below (g := gb229) (o := .cells #[.string a0_0, .int .i64 a0_1, .int .i64 a0_2] 26 (0, 0)) (by (with_reducible repeat (first | refine blk_drewN ?_ _ | refine blk_drew ?_ | refine blk_alloc ?_ _)); exact BK229.out) hb); have n2_ := Aside0.mk (below_step (by repeat (first | (with_reducible first | exact HB.out | apply below_alloc | apply pw_below_drewN | apply below_drew1 | refine below_set ?_ GE229.out) | exact HB.out)) hb); clear BK229; clear HB; have HO233 := n0_; have BK229 := n1_; have HB := n2_; clear n0_ n1_ n2_; (try clear hb); (try clear hb2); (try clear hk); (try clear hi); (try clear ho0); have hcz20_0 : w19.cell? ⟨gb229, 0, none⟩ = some (.string a0_0) := (blk_cell BK229.out 0).trans rfl; have hcz20_1 : w19.cell? ⟨gb229, 1, none⟩ = some (.int .i64 a0_1) := (blk_cell BK229.out 1).trans rfl; have hcz20_2 : w19.cell? ⟨gb229, 2, none⟩ = some (.int .i64 a0_2) := (blk_cell BK229.out 2).trans rfl; have hfz20_0 := blk_frozen BK229.out 0; have hfz20_1 := blk_frozen BK229.out 1; have hfz20_2 := blk_frozen BK229.out 2; obtain ⟨Ao21, co21, eo21⟩ := Kd.R_slice HO233.out; subst eo21) | ((with_reducible refine gate_callee (f := 9) rfl ?_); refine goesL_ (some 56) rfl rfl Try.func9 (by kernel_rfl) rfl #[.int .i64 ((js5).size : Int), .string js11, .slice Ao21 t230.length co21] rfl (by (try simp only [List.map_toArray, List.map_cons, List.map_nil]); first | done | rfl | (simp only [List.length_drop, List.length_take]; rfl)) ?_; (with_reducible refine (slot_Pack.calls k ((js5).size : Int) js11 _ _ t230 t234 t235 _ ?side1 ?side2 A12.out).mono ?_); (case side1 => repeat (first | exact (Kd.R_reads' HO233.out).2.2 | (with_reducible refine Kd.C_alloc ?_ _) | (with_reducible refine Kd.C_drewN ?_ _) | (with_reducible refine Kd.C_drew ?_))); (case side2 => exact (Kd.R_reads' HO233.out).2.1); rintro e w22 ⟨rfl, hb⟩; refine ⟨_, rfl, ?_⟩; have n0_ := Aside0.mk (Kd.R_below (by (with_reducible repeat (first | apply Kd.R_alloc | apply Kd.R_drewN | apply Kd.R_drew)); exact HO233.out) hb); have n1_ := Aside0.mk (blk_below (g := gb229) (o := .cells #[.string a0_0, .int .i64 a0_1, .int .i64 a0_2] 26 (0, 0)) (by (with_reducible repeat (first | refine blk_drewN ?_ _ | refine blk_drew ?_ | refine blk_alloc ?_ _)); exact BK229.out) hb); have n2_ := Aside0.mk (below_step (by repeat (first | (with_reducible first | exact HB.out | apply below_alloc | apply pw_below_drewN | apply below_drew1 | refine below_set ?_ GE229.out) | exact HB.out)) hb); clear HO233; clear BK229; clear HB; have HO233 := n0_; have BK229 := n1_; have HB := n2_; clear n0_ n1_ n2_; (try clear hb); (try clear hb2); (try clear hk); (try clear hi); have hcz23_0 : w22.cell? ⟨gb229, 0, none⟩ = some (.string a0_0) := (blk_cell BK229.out 0).trans rfl; have hcz23_1 : w22.cell? ⟨gb229, 1, none⟩ = some (.int .i64 a0_1) := (blk_cell BK229.out 1).trans rfl; have hcz23_2 : w22.cell? ⟨gb229, 2, none⟩ = some (.int .i64 a0_2) := (blk_cell BK229.out 2).trans rfl; have hfz23_0 := blk_frozen BK229.out 0; have hfz23_1 := blk_frozen BK229.out 1; have hfz23_2 := blk_frozen BK229.out 2) | (go_at_call 16; (with_reducible refine (withylaw08_fixed.calls k  t236 _ A16.out).mono ?_); rintro e w24 ⟨rfl, hb⟩; have n0_ := Aside0.mk (Kd.R_below (by (with_reducible repeat (first | apply Kd.R_alloc | apply Kd.R_drewN | apply Kd.R_drew)); exact HO233.out) hb); have n1_ := Aside0.mk (blk_below (g := gb229) (o := .cells #[.string a0_0, .int .i64 a0_1, .int .i64 a0_2] 26 (0, 0)) (by (with_reducible repeat (first | refine blk_drewN ?_ _ | refine blk_drew ?_ | refine blk_alloc ?_ _)); exact BK229.out) hb); have n2_ := Aside0.mk (below_step (by repeat (first | (with_reducible first | exact HB.out | apply below_alloc | apply pw_below_drewN | apply below_drew1 | refine below_set ?_ GE229.out) | exact HB.out)) hb); clear HO233; clear BK229; clear HB; have HO233 := n0_; have BK229 := n1_; have HB := n2_; clear n0_ n1_ n2_; (try clear hb); (try clear hb2); (try clear hk); (try clear hi)))
                  go_ret
                  exact ⟨by first | rfl | (simp [errW_none, errW_some] <;> rfl) | (simp only [← hji2, ← hjs5, ← hji8, ← hjs11]; first | rfl | (simp [errW_none, errW_some] <;> rfl)) | (simp [*, errW_none, errW_some] <;> rfl), by repeat (first | (with_reducible first | exact HB.out | apply below_alloc | apply pw_below_drewN | apply below_drew1 | refine below_set ?_ GE229.out) | exact HB.out)⟩
                · rw [if_neg c15] at H
                  exact absurd H (by simp)
              · rw [if_neg c14] at H
                exact absurd H (by simp)
            · rw [if_neg c13] at H
              exact absurd H (by simp)
          · rw [if_neg c10] at H
            exact absurd H (by simp)
        · rw [if_neg c9] at H
          exact absurd H (by simp)
      · rw [if_neg c7] at H
        have c7b0 : (t231 == 0) = false := beq_eq_false_iff_ne.mpr c7
        have c7b1 : (t231 != 0) = true := bne_iff_ne.mpr c7
        by_cases c25 : (t230.length : Int) = 0
        · rw [if_pos c25] at H
          have c25b0 : ((t230.length : Int) == 0) = true := beq_iff_eq.mpr c25
          have c25b1 : ((t230.length : Int) != 0) = false := bne_eq_false_iff_eq.mpr c25
          clear c25
          by_cases c26 : a0_1 < 0
          · rw [if_pos c26] at H
            have c26b0 : decide (a0_1 < 0) = true := decide_eq_true c26
            clear c26
            by_cases c27 : ((t231 == 4) == true) = true
            · rw [if_pos c27] at H
              have c27b0 : ((t231 == 4) == true) = true := c27
              (try (have c27b1 : (t231 == 4) = true := by simpa using c27))
              (try (have c27b2 : decide ((t231 == 4) = true) = true := by simpa using c27))
              (try (have c27b3 : ((t231 == 4) == true) = true := by simpa using c27))
              clear c27
              replace H := Option.bind_eq_some_iff.mp H
              obtain ⟨t237, A280, H⟩ := H
              replace H : (some t237) = some r := H
              have A28 := Aside0.mk A280
              clear A280
              obtain rfl := Option.some.inj H
              go_enter Try.func5, Try.ntmps5
              go_wp2_with (first | ((with_reducible refine gate_dst (N := 1) rfl ?_); refine box_event ?hg (N := 1) ?hd (cs := #[.string a0_0, .int .i64 a0_1, .int .i64 a0_2]) (t := 26) ?hr ?_; (case hd => rfl); (case hg => rfl); (case hr => first | (go_simp; done) | (go_simp; rfl)); intro gb229 hg w29 hbox hb; have n0_ := Aside0.mk (below_step (by repeat (first | (with_reducible first | exact HB.out | apply below_alloc | apply pw_below_drewN | apply below_drew1) | exact HB.out)) hb); have n1_ := Aside0.mk (hbox); have n2_ := Aside0.mk ((by rw [hg]; exact (below_size (by repeat (first | (with_reducible first | exact HB.out | apply below_alloc | apply pw_below_drewN | apply below_drew1) | exact HB.out))) : w.heap.size ≤ gb229)); have n3_ := Aside0.mk ((by rw [hg]; exact (below_size (by repeat (first | (with_reducible first | exact HB.out | apply below_alloc | apply pw_below_drewN | apply below_drew1) | exact HB.out))) : w.heap.size ≤ gb229)); clear HB; have HB := n0_; have BK229 := n1_; have GW229 := n2_; have GE229 := n3_; clear n0_ n1_ n2_ n3_; clear hb hbox hg; have hcz30_0 : w29.cell? ⟨gb229, 0, none⟩ = some (.string a0_0) := (blk_cell BK229.out 0).trans rfl; have hcz30_1 : w29.cell? ⟨gb229, 1, none⟩ = some (.int .i64 a0_1) := (blk_cell BK229.out 1).trans rfl; have hcz30_2 : w29.cell? ⟨gb229, 2, none⟩ = some (.int .i64 a0_2) := (blk_cell BK229.out 2).trans rfl; have hfz30_0 := blk_frozen BK229.out 0; have hfz30_1 := blk_frozen BK229.out 1; have hfz30_2 := blk_frozen BK229.out 2) | ((with_reducible refine gate_callee (f := 11) rfl ?_); refine goesL_ (some 21) rfl rfl Try.func11 (by kernel_rfl) rfl #[.string js5, .int .i64 a0_1, .int .i64 a0_2] rfl (by (try simp only [List.map_toArray, List.map_cons, List.map_nil]); first | done | rfl | (simp only [List.length_drop, List.length_take]; rfl)) ?_; (with_reducible refine (slot_Unpack.calls k js5 a0_1 a0_2 t230 t231 _ A6.out).mono ?_); rintro e w31 ⟨v232, rfl, ho0, hb⟩; refine ⟨_, rfl, ?_⟩; have n0_ := Aside0.mk (Kd.R_lower ho0 (below_size (by repeat (first | (with_reducible first | exact HB.out | apply below_alloc | apply pw_below_drewN | apply below_drew1 | refine below_set ?_ GE229.out) | exact HB.out)))); have n1_ := Aside0.mk (blk_below (g := gb229) (o := .cells #[.string a0_0, .int .i64 a0_1, .int .i64 a0_2] 26 (0, 0)) (by (with_reducible repeat (first | refine blk_drewN ?_ _ | refine blk_drew ?_ | refine blk_alloc ?_ _)); exact BK229.out) hb); have n2_ := Aside0.mk (below_step (by repeat (first | (with_reducible first | exact HB.out | apply below_alloc | apply pw_below_drewN | apply below_drew1 | refine below_set ?_ GE229.out) | exact HB.out)) hb); clear BK229; clear HB; have HO233 := n0_; have BK229 := n1_; have HB := n2_; clear n0_ n1_ n2_; (try clear hb); (try clear hb2); (try clear hk); (try clear hi); (try clear ho0); obtain ⟨Ao32, co32, eo32⟩ := Kd.R_slice HO233.out; subst eo32; have hcz33_0 : w31.cell? ⟨gb229, 0, none⟩ = some (.string a0_0) := (blk_cell BK229.out 0).trans rfl; have hcz33_1 : w31.cell? ⟨gb229, 1, none⟩ = some (.int .i64 a0_1) := (blk_cell BK229.out 1).trans rfl; have hcz33_2 : w31.cell? ⟨gb229, 2, none⟩ = some (.int .i64 a0_2) := (blk_cell BK229.out 2).trans rfl; have hfz33_0 := blk_frozen BK229.out 0; have hfz33_1 := blk_frozen BK229.out 1; have hfz33_2 := blk_frozen BK229.out 2) | (go_at_call 16; (with_reducible refine (withylaw08_fixed.calls k  t237 _ A28.out).mono ?_); rintro e w34 ⟨rfl, hb⟩; have n0_ := Aside0.mk (Kd.R_below (by (with_reducible repeat (first | apply Kd.R_alloc | apply Kd.R_drewN | apply Kd.R_drew)); exact HO233.out) hb); have n1_ := Aside0.mk (blk_below (g := gb229) (o := .cells #[.string a0_0, .int .i64 a0_1, .int .i64 a0_2] 26 (0, 0)) (by (with_reducible repeat (first | refine blk_drewN ?_ _ | refine blk_drew ?_ | refine blk_alloc ?_ _)); exact BK229.out) hb); have n2_ := Aside0.mk (below_step (by repeat (first | (with_reducible first | exact HB.out | apply below_alloc | apply pw_below_drewN | apply below_drew1 | refine below_set ?_ GE229.out) | exact HB.out)) hb); clear HO233; clear BK229; clear HB; have HO233 := n0_; have BK229 := n1_; have HB := n2_; clear n0_ n1_ n2_; (try clear hb); (try clear hb2); (try clear hk); (try clear hi)))
              go_ret
              exact ⟨by first | rfl | (simp [errW_none, errW_some] <;> rfl) | (simp only [← hji2, ← hjs5]; first | rfl | (simp [errW_none, errW_some] <;> rfl)) | (simp [*, errW_none, errW_some] <;> rfl), by repeat (first | (with_reducible first | exact HB.out | apply below_alloc | apply pw_below_drewN | apply below_drew1 | refine below_set ?_ GE229.out) | exact HB.out)⟩
            · rw [if_neg c27] at H
              exact absurd H (by simp)
          · rw [if_neg c26] at H
            have c26b0 : decide (a0_1 < 0) = false := decide_eq_false c26
            clear c26
            by_cases c35 : ((t231 == 4) == (decide (a0_2 < 0))) = true
            · rw [if_pos c35] at H
              have c35b0 : ((t231 == 4) == (decide (a0_2 < 0))) = true := c35
              (try (have c35b1 : decide ((t231 == 4) = (decide (a0_2 < 0))) = true := by simpa using c35))
              (try (have c35b2 : ((t231 == 4) == (decide (a0_2 < 0))) = true := by simpa using c35))
              clear c35
              replace H := Option.bind_eq_some_iff.mp H
              obtain ⟨t238, A360, H⟩ := H
              replace H : (some t238) = some r := H
              have A36 := Aside0.mk A360
              clear A360
              obtain rfl := Option.some.inj H
              go_enter Try.func5, Try.ntmps5
              go_wp2_with (first | ((with_reducible refine gate_dst (N := 1) rfl ?_); refine box_event ?hg (N := 1) ?hd (cs := #[.string a0_0, .int .i64 a0_1, .int .i64 a0_2]) (t := 26) ?hr ?_; (case hd => rfl); (case hg => rfl); (case hr => first | (go_simp; done) | (go_simp; rfl)); intro gb229 hg w37 hbox hb; have n0_ := Aside0.mk (below_step (by repeat (first | (with_reducible first | exact HB.out | apply below_alloc | apply pw_below_drewN | apply below_drew1) | exact HB.out)) hb); have n1_ := Aside0.mk (hbox); have n2_ := Aside0.mk ((by rw [hg]; exact (below_size (by repeat (first | (with_reducible first | exact HB.out | apply below_alloc | apply pw_below_drewN | apply below_drew1) | exact HB.out))) : w.heap.size ≤ gb229)); have n3_ := Aside0.mk ((by rw [hg]; exact (below_size (by repeat (first | (with_reducible first | exact HB.out | apply below_alloc | apply pw_below_drewN | apply below_drew1) | exact HB.out))) : w.heap.size ≤ gb229)); clear HB; have HB := n0_; have BK229 := n1_; have GW229 := n2_; have GE229 := n3_; clear n0_ n1_ n2_ n3_; clear hb hbox hg; have hcz38_0 : w37.cell? ⟨gb229, 0, none⟩ = some (.string a0_0) := (blk_cell BK229.out 0).trans rfl; have hcz38_1 : w37.cell? ⟨gb229, 1, none⟩ = some (.int .i64 a0_1) := (blk_cell BK229.out 1).trans rfl; have hcz38_2 : w37.cell? ⟨gb229, 2, none⟩ = some (.int .i64 a0_2) := (blk_cell BK229.out 2).trans rfl; have hfz38_0 := blk_frozen BK229.out 0; have hfz38_1 := blk_frozen BK229.out 1; have hfz38_2 := blk_frozen BK229.out 2) | ((with_reducible refine gate_callee (f := 11) rfl ?_); refine goesL_ (some 21) rfl rfl Try.func11 (by kernel_rfl) rfl #[.string js5, .int .i64 a0_1, .int .i64 a0_2] rfl (by (try simp only [List.map_toArray, List.map_cons, List.map_nil]); first | done | rfl | (simp only [List.length_drop, List.length_take]; rfl)) ?_; (with_reducible refine (slot_Unpack.calls k js5 a0_1 a0_2 t230 t231 _ A6.out).mono ?_); rintro e w39 ⟨v232, rfl, ho0, hb⟩; refine ⟨_, rfl, ?_⟩; have n0_ := Aside0.mk (Kd.R_lower ho0 (below_size (by repeat (first | (with_reducible first | exact HB.out | apply below_alloc | apply pw_below_drewN | apply below_drew1 | refine below_set ?_ GE229.out) | exact HB.out)))); have n1_ := Aside0.mk (blk_below (g := gb229) (o := .cells #[.string a0_0, .int .i64 a0_1, .int .i64 a0_2] 26 (0, 0)) (by (with_reducible repeat (first | refine blk_drewN ?_ _ | refine blk_drew ?_ | refine blk_alloc ?_ _)); exact BK229.out) hb); have n2_ := Aside0.mk (below_step (by repeat (first | (with_reducible first | exact HB.out | apply below_alloc | apply pw_below_drewN | apply below_drew1 | refine below_set ?_ GE229.out) | exact HB.out)) hb); clear BK229; clear HB; have HO233 := n0_; have BK229 := n1_; have HB := n2_; clear n0_ n1_ n2_; (try clear hb); (try clear hb2); (try clear hk); (try clear hi); (try clear ho0); obtain ⟨Ao40, co40, eo40⟩ := Kd.R_slice HO233.out; subst eo40; have hcz41_0 : w39.cell? ⟨gb229, 0, none⟩ = some (.string a0_0) := (blk_cell BK229.out 0).trans rfl; have hcz41_1 : w39.cell? ⟨gb229, 1, none⟩ = some (.int .i64 a0_1) := (blk_cell BK229.out 1).trans rfl; have hcz41_2 : w39.cell? ⟨gb229, 2, none⟩ = some (.int .i64 a0_2) := (blk_cell BK229.out 2).trans rfl; have hfz41_0 := blk_frozen BK229.out 0; have hfz41_1 := blk_frozen BK229.out 1; have hfz41_2 := blk_frozen BK229.out 2) | (go_at_call 16; (with_reducible refine (withylaw08_fixed.calls k  t238 _ A36.out).mono ?_); rintro e w42 ⟨rfl, hb⟩; have n0_ := Aside0.mk (Kd.R_below (by (with_reducible repeat (first | apply Kd.R_alloc | apply Kd.R_drewN | apply Kd.R_drew)); exact HO233.out) hb); have n1_ := Aside0.mk (blk_below (g := gb229) (o := .cells #[.string a0_0, .int .i64 a0_1, .int .i64 a0_2] 26 (0, 0)) (by (with_reducible repeat (first | refine blk_drewN ?_ _ | refine blk_drew ?_ | refine blk_alloc ?_ _)); exact BK229.out) hb); have n2_ := Aside0.mk (below_step (by repeat (first | (with_reducible first | exact HB.out | apply below_alloc | apply pw_below_drewN | apply below_drew1 | refine below_set ?_ GE229.out) | exact HB.out)) hb); clear HO233; clear BK229; clear HB; have HO233 := n0_; have BK229 := n1_; have HB := n2_; clear n0_ n1_ n2_; (try clear hb); (try clear hb2); (try clear hk); (try clear hi)))
              go_ret
              exact ⟨by first | rfl | (simp [errW_none, errW_some] <;> rfl) | (simp only [← hji2, ← hjs5]; first | rfl | (simp [errW_none, errW_some] <;> rfl)) | (simp [*, errW_none, errW_some] <;> rfl), by repeat (first | (with_reducible first | exact HB.out | apply below_alloc | apply pw_below_drewN | apply below_drew1 | refine below_set ?_ GE229.out) | exact HB.out)⟩
            · rw [if_neg c35] at H
              exact absurd H (by simp)
        · rw [if_neg c25] at H
          exact absurd H (by simp)
    · rw [if_neg c4] at H
      exact absurd H (by simp)
  · rw [if_neg c3] at H
    exact absurd H (by simp)

end Go.Proofs.Ytkhbmgnjopkeaaa.P
