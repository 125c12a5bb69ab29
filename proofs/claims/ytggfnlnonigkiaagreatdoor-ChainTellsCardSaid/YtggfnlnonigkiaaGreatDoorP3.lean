/- What is proved here: for functions of the Go text, a Lean function each, and that the call comes to just what it answers. Conditions: as each contract names them. Written by wip/tools/myprint.py, a driver of the print of the kit. -/
import Derived.Test.YtggfnlnonigkiaaGreatDoorP0
import Derived.Test.YtggfnlnonigkiaaGreatDoorWAbbr
namespace Go.Proofs.YtggfnlnonigkiaaGreatDoor.P
open Go.RowKit Go.Proofs.YtggfnlnonigkiaaGreatDoorW.PrintWords Go.Proofs.YtggfnlnonigkiaaGreatDoorW.PrintLast Go.Proofs.YtggfnlnonigkiaaGreatDoorW.PrintMore Go.Proofs.YtggfnlnonigkiaaGreatDoorW.Abbr
-- PACKED
attribute [local go_sem] max2_int min2_int max_two min_two max_three min_three max_four min_four Go.Proofs.YtggfnlnonigkiaaGreatDoorLaws.str_leq Go.Proofs.YtggfnlnonigkiaaGreatDoorLaws.str_gtr Go.Proofs.YtggfnlnonigkiaaGreatDoorLaws.str_geq Go.Proofs.YtggfnlnonigkiaaGreatDoorLaws.max2_str Go.Proofs.YtggfnlnonigkiaaGreatDoorLaws.min2_str   -- for this text's walks alone
set_option linter.unusedVariables false
set_option linter.unusedSimpArgs false

/-! ### withylaw12_Cut: function 4 -/
def withylaw12_Cut.f (a0_0 : Int) (a0_1 : Int) (a0_2 : ByteArray) : Option (Int × Int × ByteArray) := if 0 ≤ (mn (a0_2.size : Int) 1100) then (if (mn (a0_2.size : Int) 1100) ≤ (a0_2.size : Int) then (some (a0_0, a0_1, a0_2.extract 0 ((mn (a0_2.size : Int) 1100) : Int).toNat)) else (none)) else (none)
set_option maxHeartbeats 8000000 in
set_option maxRecDepth 100000 in
theorem withylaw12_Cut.calls (a0_0 : Int) (a0_1 : Int) (a0_2 : ByteArray) (r1 : Int) (r2 : Int) (r3 : ByteArray) (w : World) (h : withylaw12_Cut.f a0_0 a0_1 a0_2 = some (r1, r2, r3)) :
  Calls Tryz.prog 4 #[.agg #[.int .i64 a0_0, .int .i64 a0_1, .string a0_2]] w fun e w' => e = .returned (.agg #[.int .i64 r1, .int .i64 r2, .string r3]) ∧ Below w.heap.size w w' := by
 have hu23 := Tryz.underlying23
 have HB := as_ (Below.refl w.heap.size w)
 have H : (if 0 ≤ (mn (a0_2.size : Int) 1100) then (if (mn (a0_2.size : Int) 1100) ≤ (a0_2.size : Int) then (some (a0_0, a0_1, a0_2.extract 0 ((mn (a0_2.size : Int) 1100) : Int).toNat)) else (none)) else (none)) = some (r1, r2, r3) := h
 clear h
 obtain ⟨ji2, hji2⟩ : ∃ j_ : Int, (mn (a0_2.size : Int) 1100) = j_ := ⟨_, rfl⟩
 replace H : (if 0 ≤ (ji2) then (if (ji2) ≤ (a0_2.size : Int) then (some (a0_0, a0_1, a0_2.extract 0 ((ji2) : Int).toNat)) else (none)) else (none)) = some (r1, r2, r3) := by first | (rw [hji2] at H; exact H) | (simp only [hji2] at H ⊢; exact H)
 (try (have hji2h : ji2 ≤ 1100 := by (rw [← hji2]; unfold mn; (repeat' split) <;> omega)))
 (try (have hji2g : ji2 ≤ 64 := by omega))
 (try (have hji2l : 0 ≤ ji2 := by (rw [← hji2]; unfold mn; (repeat' split) <;> omega)))
 (try (have hji2m : 0 ≤ ji2 := by omega))
 have hji2_ : (if 1100 < (a0_2.size : Int) then 1100 else (a0_2.size : Int)) = ji2 := hji2
 by_cases c3 : 0 ≤ (ji2)
 rotate_left
 ·rw [if_neg c3] at H
  exact absurd H (by simp)
 
 rw [if_pos c3] at H
 have c3b0 := eq_true c3
 have c3b1 : decide (0 ≤ (ji2)) = true := decide_eq_true c3
 clear c3
 by_cases c4 : (ji2) ≤ (a0_2.size : Int)
 rotate_left
 ·rw [if_neg c4] at H
  exact absurd H (by simp)
 rw [if_pos c4] at H
 have c4b0 := eq_true c4
 have c4b1 : decide ((ji2) ≤ (a0_2.size : Int)) = true := decide_eq_true c4
 clear c4
 obtain ⟨js5, hjs5⟩ : ∃ j_ : ByteArray, (a0_2.extract 0 ((ji2) : Int).toNat) = j_ := ⟨_, rfl⟩
 replace H : (some (a0_0, a0_1, js5)) = some (r1, r2, r3) := by first | (rw [hjs5] at H; exact H) | (simp only [hjs5] at H ⊢; exact H)
 simp only [Option.some.injEq, Prod.mk.injEq] at H
 obtain ⟨rfl, rfl, rfl⟩ := H
 go_enter Tryz.func4, Tryz.ntmps4
 go_wp2_with (first | ((with_reducible refine gate_dst (N := 1) rfl ?_); refine box_event (by rfl) (N := 1) (by rfl) (cs := #[.int .i64 a0_0, .int .i64 a0_1, .string a0_2]) (t := 23) gS ?_; intro gb101 hg w6 hbox hb; have BK101 := as_ (hbox); have GW101 := gw hg bA; have GE101 := gw hg bA; replace HB := as_ (below_step bA hb); clear hb hbox hg) | ((with_reducible refine gate_dst (N := 2) rfl ?_); refine box_event ?hg (N := 2) ?hd (cs := #[.int .i64 0, .int .i64 0, .string (⟨#[]⟩ : ByteArray)]) (t := 23) ?hr ?_; (case hd => rfl); (case hg => rfl); (case hr => first | (go_simp; done) | (go_simp; rfl)); intro gb102 hg w7 hbox hb; have BK102 := as_ (hbox); have GW102 := gw hg bA; have GE102 := gw hg bA; have NB101_102 := nl BK101 hg; have NB102_101 := ng BK101 hg; replace BK101 := bb BK101 hb; replace HB := as_ (below_step bA hb); clear hb hbox hg; have hnb8 := NB101_102.out; have hnc8 := NB102_101.out; obtain ⟨hcz9_0, hcz9_1, hcz9_2⟩ := zc3 BK101; obtain ⟨hfz9_0, hfz9_1, hfz9_2⟩ := zf3 BK101; obtain ⟨hcz10_0, hcz10_1, hcz10_2⟩ := zc3 BK102; obtain ⟨hfz10_0, hfz10_1, hfz10_2⟩ := zf3 BK102))
 refine bodyPost_ret (results_cell_row rfl _ _ gb102 23 #[.int .i64 a0_0, .int .i64 a0_1, .string js5] (0, 0) _ rfl (by refine bx ?_; refine blk_put (cs := #[.int .i64 a0_0, .int .i64 a0_1, .string (⟨#[]⟩ : ByteArray)]) ?_ 2 _ rfl; refine bx ?_; refine blk_put (cs := #[.int .i64 a0_0, .int .i64 0, .string (⟨#[]⟩ : ByteArray)]) ?_ 1 _ rfl; refine bx ?_; refine blk_put (cs := #[.int .i64 0, .int .i64 0, .string (⟨#[]⟩ : ByteArray)]) ?_ 0 _ rfl; refine bx ?_; refine blk_far ?_ NB102_101.out _; refine bx ?_; exact BK102.out) Tryz.underlying23 rfl (by kernel_rfl)) rfl ?_
 exact ⟨by first | rfl | (simp [errW_none, errW_some] <;> rfl) | (simp only [← hji2, ← hjs5]; first | rfl | (simp [errW_none, errW_some] <;> rfl)) | (simp [*, errW_none, errW_some] <;> rfl), by repeat (first | (with_reducible first | exact HB.out | apply below_alloc | apply pw_below_drewN | apply below_drew1 | refine below_set ?_ GE101.out | refine below_set ?_ GE102.out) | exact HB.out)⟩
/-! ### disk_sizes: function 28 -/
def disk_sizes.f  : Option (Int × Int × Int × Int) := some (128, 256, 512, 1024)
set_option maxHeartbeats 8000000 in
set_option maxRecDepth 100000 in
theorem disk_sizes.calls  (r1 : Int) (r2 : Int) (r3 : Int) (r4 : Int) (w : World) (h : disk_sizes.f  = some (r1, r2, r3, r4)) :
  Calls Tryz.prog 28 #[] w fun e w' => e = .returned (.agg #[.int .i64 r1, .int .i64 r2, .int .i64 r3, .int .i64 r4]) ∧ Below w.heap.size w w' := by
 have hu59 := Tryz.underlying59
 have HB := as_ (Below.refl w.heap.size w)
 have H : (some (128, 256, 512, 1024)) = some (r1, r2, r3, r4) := h
 clear h
 simp only [Option.some.injEq, Prod.mk.injEq] at H
 obtain ⟨rfl, rfl, rfl, rfl⟩ := H
 go_enter Tryz.func28, Tryz.ntmps28
 go_wp2_with (first | ((with_reducible refine gate_dst (N := 0) rfl ?_); refine box_event (by rfl) (N := 0) (by rfl) (cs := #[.int .i64 0, .int .i64 0, .int .i64 0, .int .i64 0]) (t := 59) gS ?_; intro gb103 hg w1 hbox hb; have BK103 := as_ (hbox); have GW103 := gw hg bA; have GE103 := gw hg bA; replace HB := as_ (below_step bA hb); clear hb hbox hg; obtain ⟨hcz2_0, hcz2_1, hcz2_2, hcz2_3⟩ := zc4 BK103; obtain ⟨hfz2_0, hfz2_1, hfz2_2, hfz2_3⟩ := zf4 BK103))
 refine bodyPost_ret (results_cell_row rfl _ _ gb103 59 #[.int .i64 128, .int .i64 256, .int .i64 512, .int .i64 1024] (0, 0) _ rfl (by refine bx ?_; refine blk_put (cs := #[.int .i64 128, .int .i64 256, .int .i64 512, .int .i64 0]) ?_ 3 _ rfl; refine bx ?_; refine blk_put (cs := #[.int .i64 128, .int .i64 256, .int .i64 0, .int .i64 0]) ?_ 2 _ rfl; refine bx ?_; refine blk_put (cs := #[.int .i64 128, .int .i64 0, .int .i64 0, .int .i64 0]) ?_ 1 _ rfl; refine bx ?_; refine blk_put (cs := #[.int .i64 0, .int .i64 0, .int .i64 0, .int .i64 0]) ?_ 0 _ rfl; refine bx ?_; exact BK103.out) Tryz.underlying59 rfl (by kernel_rfl)) rfl ?_
 exact ⟨eW, by repeat (first | (with_reducible first | exact HB.out | apply below_alloc | apply pw_below_drewN | apply below_drew1 | refine below_set ?_ GE103.out) | exact HB.out)⟩

/-! ### disk_Size: function 19, by hand -/
def disk_Size.f (a0 : Int) : Option (Bool) := some (decide (a0 = 128) || decide (a0 = 256) || decide (a0 = 512) || decide (a0 = 1024))
theorem disk_index (W : World) (i : Int) (v : Int) (h : (i = 0 ∧ v = 128) ∨ (i = 1 ∧ v = 256) ∨ (i = 2 ∧ v = 512) ∨ (i = 3 ∧ v = 1024)) : (Instr.index 59 (.agg #[.int .i64 128, .int .i64 256, .int .i64 512, .int .i64 1024]) (.int .i64 i)).run Tryz.prog W = .ok (.int .i64 v) W := by
 have hu : Tryz.prog.underlying 59 = some (.array 4 3) := by kernel_rfl
 obtain ⟨i0, hi, hz, hz1, _⟩ := info_parts (show (Tryz.prog.info? 3).map (fun i => (i.zero, i.size, i.bytes)) = some (some (.int .i64 0), 1, 8) by kernel_rfl)
 rcases h with ⟨rfl, rfl⟩ | ⟨rfl, rfl⟩ | ⟨rfl, rfl⟩ | ⟨rfl, rfl⟩ <;> simp [Instr.index, run_underlying hu, asIntOf, sizeOf, typeInfo, hi, hz1, go_sem]
set_option maxHeartbeats 4000000 in
set_option maxRecDepth 100000 in
theorem disk_Size.calls (a0 : Int) (r : Bool) (w : World) (h : disk_Size.f a0 = some r) :
  Calls Tryz.prog 19 #[.int .i64 a0] w fun e w' => e = .returned (.bool r) ∧ Below w.heap.size w w' := by
 have H := Option.some.inj h
 clear h
 go_enter Tryz.func19, Tryz.ntmps19
 go_wp2_with fail
 refine (disk_sizes.calls 128 256 512 1024 _ rfl).mono ?_
 rintro e w1 ⟨rfl, hb⟩
 have HB1 := as_ (below_step (by repeat (first | exact Below.refl _ _ | apply below_alloc | apply pw_below_drewN | apply below_drew1)) hb : Below w.heap.size w w1)
 clear hb
 have H0 : Aside0 (((0 : Int) = 0 ∧ r = (decide (a0 = 128) || decide (a0 = 256) || decide (a0 = 512) || decide (a0 = 1024)))) := ⟨rfl, H.symm⟩
 go_wp2
 go_loopg [6] 5 (fun kq v6 w' => ∃ x6 : Int, v6 = .int .i64 x6 ∧ Aside0 ((x6 = 0 ∧ kq = 5 ∧ r = (decide (a0 = 128) || decide (a0 = 256) || decide (a0 = 512) || decide (a0 = 1024))) ∨ (x6 = 1 ∧ kq = 4 ∧ r = (decide (a0 = 256) || decide (a0 = 512) || decide (a0 = 1024))) ∨ (x6 = 2 ∧ kq = 3 ∧ r = (decide (a0 = 512) || decide (a0 = 1024))) ∨ (x6 = 3 ∧ kq = 2 ∧ r = decide (a0 = 1024)) ∨ (x6 = 4 ∧ kq = 1 ∧ r = false)) ∧ Aside0 (Below w.heap.size w w'))
 case atStart => exact ⟨0, rfl, ⟨.inl ⟨rfl, rfl, H.symm⟩⟩, ⟨HB1.out⟩⟩
 case round =>
  obtain ⟨x6, rfl, HX, HB⟩ := hrel
  clear H0 H
  rcases HX.out with ⟨rfl, rfl, hr⟩ | ⟨rfl, rfl, hr⟩ | ⟨rfl, rfl, hr⟩ | ⟨rfl, rfl, hr⟩ | ⟨rfl, rfl, hr⟩
  ·have HR := Aside0.mk hr
   clear hr HX
   have hix : ∀ W : World, (Instr.index 59 (.agg #[.int .i64 128, .int .i64 256, .int .i64 512, .int .i64 1024]) (.int .i64 0)).run Tryz.prog W = .ok (.int .i64 128) W := fun W => disk_index W _ _ (by omega)
   by_cases c : a0 = 128
   ·subst c
    go_wp2
    go_ret
    exact ⟨by rw [HR.out]; rfl, by repeat (first | exact HB.out | apply below_alloc | apply pw_below_drewN | apply below_drew1)⟩
   have c0 : ((128 : Int) == a0) = false := beq_eq_false_iff_ne.mpr (fun h => c h.symm)
   have c1 : decide ((128 : Int) = a0) = false := decide_eq_false (fun h => c h.symm)
   go_wp2
   go_roundg 4
   case measure => omega
   case rel => exact ⟨1, rfl, ⟨.inr (.inl ⟨rfl, rfl, by rw [HR.out]; simp [c]⟩)⟩, ⟨by repeat (first | exact HB.out | apply below_alloc | apply pw_below_drewN | apply below_drew1)⟩⟩
  ·have HR := Aside0.mk hr
   clear hr HX
   have hix : ∀ W : World, (Instr.index 59 (.agg #[.int .i64 128, .int .i64 256, .int .i64 512, .int .i64 1024]) (.int .i64 1)).run Tryz.prog W = .ok (.int .i64 256) W := fun W => disk_index W _ _ (by omega)
   by_cases c : a0 = 256
   ·subst c
    go_wp2
    go_ret
    exact ⟨by rw [HR.out]; rfl, by repeat (first | exact HB.out | apply below_alloc | apply pw_below_drewN | apply below_drew1)⟩
   have c0 : ((256 : Int) == a0) = false := beq_eq_false_iff_ne.mpr (fun h => c h.symm)
   have c1 : decide ((256 : Int) = a0) = false := decide_eq_false (fun h => c h.symm)
   go_wp2
   go_roundg 3
   case measure => omega
   case rel => exact ⟨2, rfl, ⟨.inr (.inr (.inl ⟨rfl, rfl, by rw [HR.out]; simp [c]⟩))⟩, ⟨by repeat (first | exact HB.out | apply below_alloc | apply pw_below_drewN | apply below_drew1)⟩⟩
  ·have HR := Aside0.mk hr
   clear hr HX
   have hix : ∀ W : World, (Instr.index 59 (.agg #[.int .i64 128, .int .i64 256, .int .i64 512, .int .i64 1024]) (.int .i64 2)).run Tryz.prog W = .ok (.int .i64 512) W := fun W => disk_index W _ _ (by omega)
   by_cases c : a0 = 512
   ·subst c
    go_wp2
    go_ret
    exact ⟨by rw [HR.out]; rfl, by repeat (first | exact HB.out | apply below_alloc | apply pw_below_drewN | apply below_drew1)⟩
   have c0 : ((512 : Int) == a0) = false := beq_eq_false_iff_ne.mpr (fun h => c h.symm)
   have c1 : decide ((512 : Int) = a0) = false := decide_eq_false (fun h => c h.symm)
   go_wp2
   go_roundg 2
   case measure => omega
   case rel => exact ⟨3, rfl, ⟨.inr (.inr (.inr (.inl ⟨rfl, rfl, by rw [HR.out]; simp [c]⟩)))⟩, ⟨by repeat (first | exact HB.out | apply below_alloc | apply pw_below_drewN | apply below_drew1)⟩⟩
  ·have HR := Aside0.mk hr
   clear hr HX
   have hix : ∀ W : World, (Instr.index 59 (.agg #[.int .i64 128, .int .i64 256, .int .i64 512, .int .i64 1024]) (.int .i64 3)).run Tryz.prog W = .ok (.int .i64 1024) W := fun W => disk_index W _ _ (by omega)
   by_cases c : a0 = 1024
   ·subst c
    go_wp2
    go_ret
    exact ⟨by rw [HR.out]; rfl, by repeat (first | exact HB.out | apply below_alloc | apply pw_below_drewN | apply below_drew1)⟩
   have c0 : ((1024 : Int) == a0) = false := beq_eq_false_iff_ne.mpr (fun h => c h.symm)
   have c1 : decide ((1024 : Int) = a0) = false := decide_eq_false (fun h => c h.symm)
   go_wp2
   go_roundg 1
   case measure => omega
   case rel => exact ⟨4, rfl, ⟨.inr (.inr (.inr (.inr ⟨rfl, rfl, by rw [HR.out]; simp [c]⟩)))⟩, ⟨by repeat (first | exact HB.out | apply below_alloc | apply pw_below_drewN | apply below_drew1)⟩⟩
  ·have HR := Aside0.mk hr
   clear hr HX
   go_wp2
   go_ret
   exact ⟨by rw [HR.out]; rfl, by repeat (first | exact HB.out | apply below_alloc | apply pw_below_drewN | apply below_drew1)⟩


/-! ### chain_Chain_full: function 25 -/
def chain_Chain_full.f (a0_0 : Int) (a0_1 : Int) (a0_2 : ByteArray) (a1 : Int) : Option (Bool) := if a0_1 = 0 then (if (a0_2.size : Int) ≥ 1 then (some (decide ((a0_2.size : Int) ≤ a1))) else (some false)) else (some ((a0_2.size : Int) == a1))
set_option maxHeartbeats 8000000 in
set_option maxRecDepth 100000 in
theorem chain_Chain_full.calls (a0_0 : Int) (a0_1 : Int) (a0_2 : ByteArray) (a1 : Int) (r : Bool) (w : World) (h : chain_Chain_full.f a0_0 a0_1 a0_2 a1 = some r) :
  Calls Tryz.prog 25 #[.agg #[.int .i64 a0_0, .int .i64 a0_1, .string a0_2], .int .i64 a1] w fun e w' => e = .returned (.bool r) ∧ Below w.heap.size w w' := by
 have hu23 := Tryz.underlying23
 have HB := as_ (Below.refl w.heap.size w)
 have H : (if a0_1 = 0 then (if (a0_2.size : Int) ≥ 1 then (some (decide ((a0_2.size : Int) ≤ a1))) else (some false)) else (some ((a0_2.size : Int) == a1))) = some r := h
 clear h
 by_cases c3 : a0_1 = 0
 rotate_left
 ·rw [if_neg c3] at H
  have c3b0 : (a0_1 == 0) = false := beq_eq_false_iff_ne.mpr c3
  have c3b1 : (a0_1 != 0) = true := bne_iff_ne.mpr c3
  obtain rfl := Option.some.inj H
  go_enter Tryz.func25, Tryz.ntmps25
  go_wp2_with (first | ((with_reducible refine gate_dst (N := 2) rfl ?_); (try (refine gate_guard (by rfl) ?_; dsimp only)); refine box_event (by rfl) (N := 2) (by rfl) (cs := #[.int .i64 a0_0, .int .i64 a0_1, .string a0_2]) (t := 23) gS ?_; intro gb104 hg w9 hbox hb; have BK104 := as_ (hbox); have GW104 := gw hg bA; have GE104 := gw hg bA; replace HB := as_ (below_step bA hb); clear hb hbox hg; obtain ⟨hcz10_0, hcz10_1, hcz10_2⟩ := zc3 BK104; obtain ⟨hfz10_0, hfz10_1, hfz10_2⟩ := zf3 BK104))
  go_ret
  exact ⟨eW, by repeat (first | (with_reducible first | exact HB.out | apply below_alloc | apply pw_below_drewN | apply below_drew1 | refine below_set ?_ GE104.out) | exact HB.out)⟩
 
 rw [if_pos c3] at H
 have c3b0 : (a0_1 == 0) = true := beq_iff_eq.mpr c3
 have c3b1 : (a0_1 != 0) = false := bne_eq_false_iff_eq.mpr c3
 clear c3
 by_cases c4 : (a0_2.size : Int) ≥ 1
 rotate_left
 ·rw [if_neg c4] at H
  have c4b0 : decide (1 ≤ (a0_2.size : Int)) = false := decide_eq_false c4
  have c4b1 : decide (1 ≤ a0_2.size) = false := decide_eq_false (by omega)
  clear c4
  obtain rfl := Option.some.inj H
  go_enter Tryz.func25, Tryz.ntmps25
  go_wp2_with (first | ((with_reducible refine gate_dst (N := 2) rfl ?_); (try (refine gate_guard (by rfl) ?_; dsimp only)); refine box_event (by rfl) (N := 2) (by rfl) (cs := #[.int .i64 a0_0, .int .i64 a0_1, .string a0_2]) (t := 23) gS ?_; intro gb104 hg w7 hbox hb; have BK104 := as_ (hbox); have GW104 := gw hg bA; have GE104 := gw hg bA; replace HB := as_ (below_step bA hb); clear hb hbox hg; obtain ⟨hcz8_0, hcz8_1, hcz8_2⟩ := zc3 BK104; obtain ⟨hfz8_0, hfz8_1, hfz8_2⟩ := zf3 BK104))
  go_ret
  exact ⟨eW, by repeat (first | (with_reducible first | exact HB.out | apply below_alloc | apply pw_below_drewN | apply below_drew1 | refine below_set ?_ GE104.out) | exact HB.out)⟩
 rw [if_pos c4] at H
 have c4b0 : decide (1 ≤ (a0_2.size : Int)) = true := decide_eq_true c4
 have c4b1 : decide (1 ≤ a0_2.size) = true := decide_eq_true (by omega)
 clear c4
 obtain rfl := Option.some.inj H
 go_enter Tryz.func25, Tryz.ntmps25
 go_wp2_with (first | ((with_reducible refine gate_dst (N := 2) rfl ?_); (try (refine gate_guard (by rfl) ?_; dsimp only)); refine box_event (by rfl) (N := 2) (by rfl) (cs := #[.int .i64 a0_0, .int .i64 a0_1, .string a0_2]) (t := 23) gS ?_; intro gb104 hg w5 hbox hb; have BK104 := as_ (hbox); have GW104 := gw hg bA; have GE104 := gw hg bA; replace HB := as_ (below_step bA hb); clear hb hbox hg; obtain ⟨hcz6_0, hcz6_1, hcz6_2⟩ := zc3 BK104; obtain ⟨hfz6_0, hfz6_1, hfz6_2⟩ := zf3 BK104))
 go_ret
 exact ⟨eW, by repeat (first | (with_reducible first | exact HB.out | apply below_alloc | apply pw_below_drewN | apply below_drew1 | refine below_set ?_ GE104.out) | exact HB.out)⟩
/-! ### chain_May: function 10 -/
def chain_May.f (a0_0 : Int) (a0_1 : Int) (a0_2 : ByteArray) (a1 : Int) : Option (Bool) := (disk_Size.f a1).bind fun t106 => (if t106 = true then (if a0_0 ≥ 1 then (if a0_0 < 4096 then (if a0_1 ≥ 0 then (if a0_1 < 4096 then (if a0_1 = a0_0 then (some false) else ((chain_Chain_full.f a0_0 a0_1 a0_2 (wrap64 (a1 - 16))).bind fun t107 => (some t107))) else (some false)) else (some false)) else (some false)) else (some false)) else (some false))
set_option maxHeartbeats 8000000 in
set_option maxRecDepth 100000 in
theorem chain_May.calls (a0_0 : Int) (a0_1 : Int) (a0_2 : ByteArray) (a1 : Int) (r : Bool) (w : World) (h : chain_May.f a0_0 a0_1 a0_2 a1 = some r) :
  Calls Tryz.prog 10 #[.agg #[.int .i64 a0_0, .int .i64 a0_1, .string a0_2], .int .i64 a1] w fun e w' => e = .returned (.bool r) ∧ Below w.heap.size w w' := by
 have hu23 := Tryz.underlying23
 have HB := as_ (Below.refl w.heap.size w)
 have H : ((disk_Size.f a1).bind fun t106 => (if t106 = true then (if a0_0 ≥ 1 then (if a0_0 < 4096 then (if a0_1 ≥ 0 then (if a0_1 < 4096 then (if a0_1 = a0_0 then (some false) else ((chain_Chain_full.f a0_0 a0_1 a0_2 (wrap64 (a1 - 16))).bind fun t107 => (some t107))) else (some false)) else (some false)) else (some false)) else (some false)) else (some false))) = some r := h
 clear h
 replace H := bM H
 obtain ⟨t106, A30, H⟩ := H
 replace H : (if t106 = true then (if a0_0 ≥ 1 then (if a0_0 < 4096 then (if a0_1 ≥ 0 then (if a0_1 < 4096 then (if a0_1 = a0_0 then (some false) else ((chain_Chain_full.f a0_0 a0_1 a0_2 (wrap64 (a1 - 16))).bind fun t107 => (some t107))) else (some false)) else (some false)) else (some false)) else (some false)) else (some false)) = some r := H
 have A3 := Aside0.mk A30
 clear A30
 by_cases c4 : t106 = true
 rotate_left
 ·replace c4 := Bool.eq_false_iff.mpr c4
  subst c4
  have H1 : (some false) = some r := by rw [if_neg (show ¬ (false = true) by decide)] at H; exact H
  clear H
  have H := H1
  clear H1
  obtain rfl := Option.some.inj H
  go_enter Tryz.func10, Tryz.ntmps10
  (try simp only [List.append_eq, List.cons_append, List.nil_append])
  go_wp2_with (first | ((with_reducible refine gate_dst (N := 2) rfl ?_); refine box_event (by rfl) (N := 2) (by rfl) (cs := #[.int .i64 a0_0, .int .i64 a0_1, .string a0_2]) (t := 23) gS ?_; intro gb105 hg w30 hbox hb; have BK105 := as_ (hbox); have GW105 := gw hg bA; have GE105 := gw hg bA; replace HB := as_ (below_step bA hb); clear hb hbox hg) | ((with_reducible refine gate_callee (f := 19) rfl ?_); refine goesL_ (some 7) rfl rfl Tryz.func19 (by kernel_rfl) rfl #[.int .i64 a1] rfl aO ?_; (with_reducible refine (disk_Size.calls a1 false _ A3.out).mono ?_); rintro e w31 ⟨rfl, hb⟩; refine ⟨_, rfl, ?_⟩; replace BK105 := bb BK105 hb; replace HB := as_ (below_step bA hb); (try clear hb); (try clear hb2); (try clear hk); (try clear hi)))
  go_ret
  exact ⟨eW, by repeat (first | (with_reducible first | exact HB.out | apply below_alloc | apply pw_below_drewN | apply below_drew1 | refine below_set ?_ GE105.out) | exact HB.out)⟩
 
 subst c4
 have H1 : (if a0_0 ≥ 1 then (if a0_0 < 4096 then (if a0_1 ≥ 0 then (if a0_1 < 4096 then (if a0_1 = a0_0 then (some false) else ((chain_Chain_full.f a0_0 a0_1 a0_2 (wrap64 (a1 - 16))).bind fun t107 => (some t107))) else (some false)) else (some false)) else (some false)) else (some false)) = some r := by rw [if_pos rfl] at H; exact H
 clear H
 have H := H1
 clear H1
 by_cases c5 : a0_0 ≥ 1
 rotate_left
 ·rw [if_neg c5] at H
  have c5b0 : decide (1 ≤ a0_0) = false := decide_eq_false c5
  clear c5
  obtain rfl := Option.some.inj H
  go_enter Tryz.func10, Tryz.ntmps10
  (try simp only [List.append_eq, List.cons_append, List.nil_append])
  go_wp2_with (first | ((with_reducible refine gate_dst (N := 2) rfl ?_); refine box_event (by rfl) (N := 2) (by rfl) (cs := #[.int .i64 a0_0, .int .i64 a0_1, .string a0_2]) (t := 23) gS ?_; intro gb105 hg w27 hbox hb; have BK105 := as_ (hbox); have GW105 := gw hg bA; have GE105 := gw hg bA; replace HB := as_ (below_step bA hb); clear hb hbox hg) | ((with_reducible refine gate_callee (f := 19) rfl ?_); refine goesL_ (some 7) rfl rfl Tryz.func19 (by kernel_rfl) rfl #[.int .i64 a1] rfl aO ?_; (with_reducible refine (disk_Size.calls a1 true _ A3.out).mono ?_); rintro e w28 ⟨rfl, hb⟩; refine ⟨_, rfl, ?_⟩; replace BK105 := bb BK105 hb; replace HB := as_ (below_step bA hb); (try clear hb); (try clear hb2); (try clear hk); (try clear hi); obtain ⟨hcz29_0, hcz29_1, hcz29_2⟩ := zc3 BK105; obtain ⟨hfz29_0, hfz29_1, hfz29_2⟩ := zf3 BK105))
  go_ret
  exact ⟨eW, by repeat (first | (with_reducible first | exact HB.out | apply below_alloc | apply pw_below_drewN | apply below_drew1 | refine below_set ?_ GE105.out) | exact HB.out)⟩
 rw [if_pos c5] at H
 have c5b0 : decide (1 ≤ a0_0) = true := decide_eq_true c5
 clear c5
 by_cases c6 : a0_0 < 4096
 rotate_left
 ·rw [if_neg c6] at H
  have c6b0 : decide (a0_0 < 4096) = false := decide_eq_false c6
  clear c6
  obtain rfl := Option.some.inj H
  go_enter Tryz.func10, Tryz.ntmps10
  (try simp only [List.append_eq, List.cons_append, List.nil_append])
  go_wp2_with (first | ((with_reducible refine gate_dst (N := 2) rfl ?_); refine box_event (by rfl) (N := 2) (by rfl) (cs := #[.int .i64 a0_0, .int .i64 a0_1, .string a0_2]) (t := 23) gS ?_; intro gb105 hg w24 hbox hb; have BK105 := as_ (hbox); have GW105 := gw hg bA; have GE105 := gw hg bA; replace HB := as_ (below_step bA hb); clear hb hbox hg) | ((with_reducible refine gate_callee (f := 19) rfl ?_); refine goesL_ (some 7) rfl rfl Tryz.func19 (by kernel_rfl) rfl #[.int .i64 a1] rfl aO ?_; (with_reducible refine (disk_Size.calls a1 true _ A3.out).mono ?_); rintro e w25 ⟨rfl, hb⟩; refine ⟨_, rfl, ?_⟩; replace BK105 := bb BK105 hb; replace HB := as_ (below_step bA hb); (try clear hb); (try clear hb2); (try clear hk); (try clear hi); obtain ⟨hcz26_0, hcz26_1, hcz26_2⟩ := zc3 BK105; obtain ⟨hfz26_0, hfz26_1, hfz26_2⟩ := zf3 BK105))
  go_ret
  exact ⟨eW, by repeat (first | (with_reducible first | exact HB.out | apply below_alloc | apply pw_below_drewN | apply below_drew1 | refine below_set ?_ GE105.out) | exact HB.out)⟩
 rw [if_pos c6] at H
 have c6b0 : decide (a0_0 < 4096) = true := decide_eq_true c6
 clear c6
 by_cases c7 : a0_1 ≥ 0
 rotate_left
 ·rw [if_neg c7] at H
  have c7b0 : decide (0 ≤ a0_1) = false := decide_eq_false c7
  clear c7
  obtain rfl := Option.some.inj H
  go_enter Tryz.func10, Tryz.ntmps10
  (try simp only [List.append_eq, List.cons_append, List.nil_append])
  go_wp2_with (first | ((with_reducible refine gate_dst (N := 2) rfl ?_); refine box_event (by rfl) (N := 2) (by rfl) (cs := #[.int .i64 a0_0, .int .i64 a0_1, .string a0_2]) (t := 23) gS ?_; intro gb105 hg w21 hbox hb; have BK105 := as_ (hbox); have GW105 := gw hg bA; have GE105 := gw hg bA; replace HB := as_ (below_step bA hb); clear hb hbox hg) | ((with_reducible refine gate_callee (f := 19) rfl ?_); refine goesL_ (some 7) rfl rfl Tryz.func19 (by kernel_rfl) rfl #[.int .i64 a1] rfl aO ?_; (with_reducible refine (disk_Size.calls a1 true _ A3.out).mono ?_); rintro e w22 ⟨rfl, hb⟩; refine ⟨_, rfl, ?_⟩; replace BK105 := bb BK105 hb; replace HB := as_ (below_step bA hb); (try clear hb); (try clear hb2); (try clear hk); (try clear hi); obtain ⟨hcz23_0, hcz23_1, hcz23_2⟩ := zc3 BK105; obtain ⟨hfz23_0, hfz23_1, hfz23_2⟩ := zf3 BK105))
  go_ret
  exact ⟨eW, by repeat (first | (with_reducible first | exact HB.out | apply below_alloc | apply pw_below_drewN | apply below_drew1 | refine below_set ?_ GE105.out) | exact HB.out)⟩
 rw [if_pos c7] at H
 have c7b0 : decide (0 ≤ a0_1) = true := decide_eq_true c7
 clear c7
 by_cases c8 : a0_1 < 4096
 rotate_left
 ·rw [if_neg c8] at H
  have c8b0 : decide (a0_1 < 4096) = false := decide_eq_false c8
  clear c8
  obtain rfl := Option.some.inj H
  go_enter Tryz.func10, Tryz.ntmps10
  (try simp only [List.append_eq, List.cons_append, List.nil_append])
  go_wp2_with (first | ((with_reducible refine gate_dst (N := 2) rfl ?_); refine box_event (by rfl) (N := 2) (by rfl) (cs := #[.int .i64 a0_0, .int .i64 a0_1, .string a0_2]) (t := 23) gS ?_; intro gb105 hg w18 hbox hb; have BK105 := as_ (hbox); have GW105 := gw hg bA; have GE105 := gw hg bA; replace HB := as_ (below_step bA hb); clear hb hbox hg) | ((with_reducible refine gate_callee (f := 19) rfl ?_); refine goesL_ (some 7) rfl rfl Tryz.func19 (by kernel_rfl) rfl #[.int .i64 a1] rfl aO ?_; (with_reducible refine (disk_Size.calls a1 true _ A3.out).mono ?_); rintro e w19 ⟨rfl, hb⟩; refine ⟨_, rfl, ?_⟩; replace BK105 := bb BK105 hb; replace HB := as_ (below_step bA hb); (try clear hb); (try clear hb2); (try clear hk); (try clear hi); obtain ⟨hcz20_0, hcz20_1, hcz20_2⟩ := zc3 BK105; obtain ⟨hfz20_0, hfz20_1, hfz20_2⟩ := zf3 BK105))
  go_ret
  exact ⟨eW, by repeat (first | (with_reducible first | exact HB.out | apply below_alloc | apply pw_below_drewN | apply below_drew1 | refine below_set ?_ GE105.out) | exact HB.out)⟩
 rw [if_pos c8] at H
 have c8b0 : decide (a0_1 < 4096) = true := decide_eq_true c8
 clear c8
 by_cases c9 : a0_1 = a0_0
 ·rw [if_pos c9] at H
  have c9b0 : (a0_1 == a0_0) = true := beq_iff_eq.mpr c9
  have c9b1 : (a0_1 != a0_0) = false := bne_eq_false_iff_eq.mpr c9
  clear c9
  obtain rfl := Option.some.inj H
  go_enter Tryz.func10, Tryz.ntmps10
  (try simp only [List.append_eq, List.cons_append, List.nil_append])
  go_wp2_with (first | ((with_reducible refine gate_dst (N := 2) rfl ?_); refine box_event (by rfl) (N := 2) (by rfl) (cs := #[.int .i64 a0_0, .int .i64 a0_1, .string a0_2]) (t := 23) gS ?_; intro gb105 hg w10 hbox hb; have BK105 := as_ (hbox); have GW105 := gw hg bA; have GE105 := gw hg bA; replace HB := as_ (below_step bA hb); clear hb hbox hg) | ((with_reducible refine gate_callee (f := 19) rfl ?_); refine goesL_ (some 7) rfl rfl Tryz.func19 (by kernel_rfl) rfl #[.int .i64 a1] rfl aO ?_; (with_reducible refine (disk_Size.calls a1 true _ A3.out).mono ?_); rintro e w11 ⟨rfl, hb⟩; refine ⟨_, rfl, ?_⟩; replace BK105 := bb BK105 hb; replace HB := as_ (below_step bA hb); (try clear hb); (try clear hb2); (try clear hk); (try clear hi); obtain ⟨hcz12_0, hcz12_1, hcz12_2⟩ := zc3 BK105; obtain ⟨hfz12_0, hfz12_1, hfz12_2⟩ := zf3 BK105))
  go_ret
  exact ⟨eW, by repeat (first | (with_reducible first | exact HB.out | apply below_alloc | apply pw_below_drewN | apply below_drew1 | refine below_set ?_ GE105.out) | exact HB.out)⟩
 rw [if_neg c9] at H
 have c9b0 : (a0_1 == a0_0) = false := beq_eq_false_iff_ne.mpr c9
 have c9b1 : (a0_1 != a0_0) = true := bne_iff_ne.mpr c9
 replace H := bM H
 obtain ⟨t107, A130, H⟩ := H
 replace H : (some t107) = some r := H
 have A13 := Aside0.mk A130
 clear A130
 obtain rfl := Option.some.inj H
 go_enter Tryz.func10, Tryz.ntmps10
 (try simp only [List.append_eq, List.cons_append, List.nil_append])
 go_wp2_with (first | ((with_reducible refine gate_dst (N := 2) rfl ?_); refine box_event (by rfl) (N := 2) (by rfl) (cs := #[.int .i64 a0_0, .int .i64 a0_1, .string a0_2]) (t := 23) gS ?_; intro gb105 hg w14 hbox hb; have BK105 := as_ (hbox); have GW105 := gw hg bA; have GE105 := gw hg bA; replace HB := as_ (below_step bA hb); clear hb hbox hg) | ((with_reducible refine gate_callee (f := 19) rfl ?_); refine goesL_ (some 7) rfl rfl Tryz.func19 (by kernel_rfl) rfl #[.int .i64 a1] rfl aO ?_; (with_reducible refine (disk_Size.calls a1 true _ A3.out).mono ?_); rintro e w15 ⟨rfl, hb⟩; refine ⟨_, rfl, ?_⟩; replace BK105 := bb BK105 hb; replace HB := as_ (below_step bA hb); (try clear hb); (try clear hb2); (try clear hk); (try clear hi); obtain ⟨hcz16_0, hcz16_1, hcz16_2⟩ := zc3 BK105; obtain ⟨hfz16_0, hfz16_1, hfz16_2⟩ := zf3 BK105) | (go_at_call 25; (first | (with_reducible refine (chain_Chain_full.calls a0_0 a0_1 a0_2 (wrap64 (a1 - 16)) t107 _ A13.out).mono ?_) | (with_reducible refine (chain_Chain_full.calls a0_0 a0_1 a0_2 (a1 - 16) t107 _ (by have e_ := A13.out; rwa [(by unfold wrap64; omega : wrap64 (a1 - 16) = (a1 - 16))] at e_)).mono ?_)); rintro e w17 ⟨rfl, hb⟩; replace BK105 := bb BK105 hb; replace HB := as_ (below_step bA hb); (try clear hb); (try clear hb2); (try clear hk); (try clear hi)))
 go_ret
 exact ⟨eW, by repeat (first | (with_reducible first | exact HB.out | apply below_alloc | apply pw_below_drewN | apply below_drew1 | refine below_set ?_ GE105.out) | exact HB.out)⟩
-- NOT PRINTED: function 63 (reflectlite_TypeOf)

-- NOT PRINTED: function 64 (errors_is)

-- NOT PRINTED: function 48 (errors_Is)

-- NOT PRINTED: function 29 (head_number)

-- NOT PRINTED: function 65 (errors_Join)

-- NOT PRINTED: function 66 (errors_New)

-- NOT PRINTED: function 49 (head_fault)

/-! ### head_within: function 67 -/
def head_within.l0 : Nat → Int → List Int → Int → Int → Option (Bool)
 | 0, _, _, _, _ => none
 | k + 1, x0, x7, x8, x9 => if x9 < x8 then (if 0 ≤ x9 then (if x9 < (x7.length : Int) then (if (rd x7 x9) < 0 then (some false) else (if (rd x7 x9) ≥ x0 then (some false) else (head_within.l0 k x0 x7 x8 (wrap64 (x9 + 1))))) else (none)) else (none)) else (some true)
def head_within.f (k : Nat) (a0 : Int) (l1 : List Int) : Option (Bool) := head_within.l0 k a0 l1 (l1.length : Int) 0
theorem head_within.mono_l : ∀ k, (∀ y0 y1 y2 y3, LeO (head_within.l0 k y0 y1 y2 y3) (head_within.l0 (k + 1) y0 y1 y2 y3))
 | 0 => fun _ _ _ _ r h => by simp [head_within.l0] at h
 | k + 1 => by
  have ih0 := head_within.mono_l k
  ·intro y0 y1 y2 y3
   unfold head_within.l0
   repeat' first
   | (with_reducible exact ih0 _ _ _ _)
   | (with_reducible exact LeO.refl _)
   | (with_reducible exact LeO.none _)
   | (with_reducible refine LeO.ite ?_ ?_)
   | (with_reducible refine LeO.bind ?_ (fun _ => ?_))
   | exact ih0 _ _ _ _
   | exact LeO.none _
   | refine LeO.ite ?_ ?_
   | refine LeO.bind ?_ (fun _ => ?_)
theorem head_within.mono : ∀ a0 a1 k, LeO (head_within.f k a0 a1) (head_within.f (k + 1) a0 a1) := by
 intro a0 a1 k
 have ih0 := head_within.mono_l k
 unfold head_within.f
 repeat' first
   | (with_reducible exact ih0 _ _ _ _)
   | (with_reducible exact LeO.refl _)
   | (with_reducible exact LeO.none _)
   | (with_reducible refine LeO.ite ?_ ?_)
   | (with_reducible refine LeO.bind ?_ (fun _ => ?_))
   | exact ih0 _ _ _ _
   | exact LeO.none _
   | refine LeO.ite ?_ ?_
   | refine LeO.bind ?_ (fun _ => ?_)
set_option maxHeartbeats 8000000 in
set_option maxRecDepth 100000 in
theorem head_within.calls (k : Nat) (a0 : Int) (A1 : Option Addr) (c1 : Nat) (l1 : List Int) (r : Bool) (w : World) (hr1 : Kd.C (Kd.int .i64) w A1 l1.length l1) (hc1 : l1.length ≤ c1) (h : head_within.f k a0 l1 = some r) :
  Calls Tryz.prog 67 #[.int .i64 a0, .slice A1 l1.length c1] w fun e w' => e = .returned (.bool r) ∧ Drawn0 w w' := by
 have HR1 := Aside0.mk hr1
 have HC1 := Aside0.mk hc1
 clear hr1 hc1
 have H : (head_within.l0 k a0 l1 (l1.length : Int) 0) = some r := h
 clear h
 have H' := Aside0.mk H
 clear H
 go_enter Tryz.func67, Tryz.ntmps67
 go_wp2
 go_loopg [9] k (fun kq v9 w' => ∃ (x9_1 : Int), v9 = .int .i64 x9_1 ∧ Aside0 (head_within.l0 kq a0 l1 (l1.length : Int) x9_1 = some r) ∧ Aside0 (kq ≤ k) ∧ Drawn0 w w')
 case atStart => exact ⟨(0), (by first | rfl | (simp; done) | (simp [*]; done)), H', ⟨Nat.le_refl _⟩, by repeat (first | exact Drawn0.refl _ | apply Drawn0.step)⟩
 case round =>
  clear H'
  try clear c1
  try clear p2
  obtain ⟨x9_1, rfl, HA, HK1, ⟨m1, rfl⟩⟩ := hrel
  cases gk with
  | zero => exact absurd HA.out (by simp [head_within.l0])
  | succ k1 =>
   have H := HA.out
   clear HA
   simp only [head_within.l0] at H
   by_cases c3 : x9_1 < (l1.length : Int)
   rotate_left
   ·rw [if_neg c3] at H
    have c3b0 : decide (x9_1 < (l1.length : Int)) = false := decide_eq_false c3
    clear c3
    obtain rfl := Option.some.inj H
    go_wp2
    go_ret
    exact ⟨by first | rfl | (simp; done) | (simp [*]; done), by repeat (first | exact Drawn0.refl _ | apply Drawn0.step)⟩
 
   rw [if_pos c3] at H
   have c3b0 : decide (x9_1 < (l1.length : Int)) = true := decide_eq_true c3
   clear c3
   by_cases c4 : 0 ≤ x9_1
   rotate_left
   ·rw [if_neg c4] at H
    exact absurd H (by simp)
   rw [if_pos c4] at H
   have c4b0 : decide (0 ≤ x9_1) = true := decide_eq_true c4
   clear c4
   by_cases c5 : x9_1 < (l1.length : Int)
   rotate_left
   ·rw [if_neg c5] at H
    exact absurd H (by simp)
   rw [if_pos c5] at H
   have c5b0 : decide (x9_1 < (l1.length : Int)) = true := decide_eq_true c5
   clear c5
   by_cases c6 : (rd l1 x9_1) < 0
   ·rw [if_pos c6] at H
    have c6b0 : decide ((rd l1 x9_1) < 0) = true := decide_eq_true c6
    clear c6
    obtain rfl := Option.some.inj H
    have p115 : 0 ≤ (x9_1 : Int) := of_decide_eq_true aM
    have q115 : x9_1 < (l1.length : Int) := of_decide_eq_true aM
    obtain ⟨ad115, e115, hx115_0⟩ := Kd.at_int HR1.out x9_1 p115 q115
    cases e115
    replace p115 := eq_true p115
    replace q115 := eq_true q115
    go_wp2
    go_ret
    exact ⟨by first | rfl | (simp; done) | (simp [*]; done), by repeat (first | exact Drawn0.refl _ | apply Drawn0.step)⟩
   rw [if_neg c6] at H
   have c6b0 : decide ((rd l1 x9_1) < 0) = false := decide_eq_false c6
   clear c6
   by_cases c7 : (rd l1 x9_1) ≥ a0
   ·rw [if_pos c7] at H
    have c7b0 : decide (a0 ≤ (rd l1 x9_1)) = true := decide_eq_true c7
    clear c7
    obtain rfl := Option.some.inj H
    have p115 : 0 ≤ (x9_1 : Int) := of_decide_eq_true aM
    have q115 : x9_1 < (l1.length : Int) := of_decide_eq_true aM
    obtain ⟨ad115, e115, hx115_0⟩ := Kd.at_int HR1.out x9_1 p115 q115
    cases e115
    replace p115 := eq_true p115
    replace q115 := eq_true q115
    go_wp2
    go_ret
    exact ⟨by first | rfl | (simp; done) | (simp [*]; done), by repeat (first | exact Drawn0.refl _ | apply Drawn0.step)⟩
   rw [if_neg c7] at H
   have c7b0 : decide (a0 ≤ (rd l1 x9_1)) = false := decide_eq_false c7
   clear c7
   have H' := Aside0.mk H
   clear H
   have p115 : 0 ≤ (x9_1 : Int) := of_decide_eq_true aM
   have q115 : x9_1 < (l1.length : Int) := of_decide_eq_true aM
   obtain ⟨ad115, e115, hx115_0⟩ := Kd.at_int HR1.out x9_1 p115 q115
   cases e115
   replace p115 := eq_true p115
   replace q115 := eq_true q115
   go_wp2
   go_roundg k1
   case measure => have := HK1.out; omega
   case rel => exact ⟨(wrap64 (x9_1 + 1)), (by first | rfl | (simp; done) | (simp [*]; done)), H', ⟨by have := HK1.out; omega⟩, by repeat (first | exact Drawn0.refl _ | apply Drawn0.step)⟩
/-! ### head_Right: function 50 -/
def head_Right.f (k : Nat) (a0_0 : Int) (a0_1 : Int) (a0_2 : Int) (a0_3 : Int) (a0_4 : Int) : Option (Bool) := if a0_0 ≥ 1 then (if a0_0 < 5 then ((head_within.f k 256 (([a0_1] : List Int))).bind fun t120 => (if t120 = true then ((head_within.f k 65536 (([a0_2] : List Int))).bind fun t124 => (if t124 = true then ((head_within.f k 4096 (([a0_3, a0_4] : List Int))).bind fun t128 => (some t128)) else (some false))) else (some false))) else (some false)) else (some false)
theorem head_Right.mono : ∀ a0 a1 a2 a3 a4 k, LeO (head_Right.f k a0 a1 a2 a3 a4) (head_Right.f (k + 1) a0 a1 a2 a3 a4) := by
 intro a0 a1 a2 a3 a4 k
 unfold head_Right.f
 repeat' first
   | (with_reducible exact head_within.mono _ _ _)
   | (with_reducible exact LeO.refl _)
   | (with_reducible exact LeO.none _)
   | (with_reducible refine LeO.ite ?_ ?_)
   | (with_reducible refine LeO.bind ?_ (fun _ => ?_))
   | exact head_within.mono _ _ _
   | exact LeO.none _
   | refine LeO.ite ?_ ?_
   | refine LeO.bind ?_ (fun _ => ?_)
set_option maxHeartbeats 8000000 in
set_option maxRecDepth 100000 in
theorem head_Right.calls (k : Nat) (a0_0 : Int) (a0_1 : Int) (a0_2 : Int) (a0_3 : Int) (a0_4 : Int) (r : Bool) (w : World) (h : head_Right.f k a0_0 a0_1 a0_2 a0_3 a0_4 = some r) :
  Calls Tryz.prog 50 #[.agg #[.int .i64 a0_0, .int .i64 a0_1, .int .i64 a0_2, .int .i64 a0_3, .int .i64 a0_4]] w fun e w' => e = .returned (.bool r) ∧ Below w.heap.size w w' := by
 have hu48 := Tryz.underlying48
 have HB := as_ (Below.refl w.heap.size w)
 have H : (if a0_0 ≥ 1 then (if a0_0 < 5 then ((head_within.f k 256 (([a0_1] : List Int))).bind fun t120 => (if t120 = true then ((head_within.f k 65536 (([a0_2] : List Int))).bind fun t124 => (if t124 = true then ((head_within.f k 4096 (([a0_3, a0_4] : List Int))).bind fun t128 => (some t128)) else (some false))) else (some false))) else (some false)) else (some false)) = some r := h
 clear h
 by_cases c2 : a0_0 ≥ 1
 rotate_left
 ·rw [if_neg c2] at H
  have c2b0 : decide (1 ≤ a0_0) = false := decide_eq_false c2
  clear c2
  obtain rfl := Option.some.inj H
  go_enter Tryz.func50, Tryz.ntmps50
  go_wp2_with (first | ((with_reducible refine gate_dst (N := 1) rfl ?_); (try (refine gate_guard (by rfl) ?_; dsimp only)); refine box_event (by rfl) (N := 1) (by rfl) (cs := #[.int .i64 a0_0, .int .i64 a0_1, .int .i64 a0_2, .int .i64 a0_3, .int .i64 a0_4]) (t := 48) gS ?_; intro gb116 hg w38 hbox hb; have BK116 := as_ (hbox); have GW116 := gw hg bA; have GE116 := gw hg bA; replace HB := as_ (below_step bA hb); clear hb hbox hg; obtain ⟨hcz39_0, hcz39_1, hcz39_2, hcz39_3, hcz39_4⟩ := zc5 BK116; obtain ⟨hfz39_0, hfz39_1, hfz39_2, hfz39_3, hfz39_4⟩ := zf5 BK116))
  go_ret
  exact ⟨eW, by repeat (first | (with_reducible first | exact HB.out | apply below_alloc | apply pw_below_drewN | apply below_drew1 | refine below_set ?_ GE116.out) | exact HB.out)⟩
 
 rw [if_pos c2] at H
 have c2b0 : decide (1 ≤ a0_0) = true := decide_eq_true c2
 clear c2
 by_cases c3 : a0_0 < 5
 rotate_left
 ·rw [if_neg c3] at H
  have c3b0 : decide (a0_0 < 5) = false := decide_eq_false c3
  clear c3
  obtain rfl := Option.some.inj H
  go_enter Tryz.func50, Tryz.ntmps50
  go_wp2_with (first | ((with_reducible refine gate_dst (N := 1) rfl ?_); (try (refine gate_guard (by rfl) ?_; dsimp only)); refine box_event (by rfl) (N := 1) (by rfl) (cs := #[.int .i64 a0_0, .int .i64 a0_1, .int .i64 a0_2, .int .i64 a0_3, .int .i64 a0_4]) (t := 48) gS ?_; intro gb116 hg w36 hbox hb; have BK116 := as_ (hbox); have GW116 := gw hg bA; have GE116 := gw hg bA; replace HB := as_ (below_step bA hb); clear hb hbox hg; obtain ⟨hcz37_0, hcz37_1, hcz37_2, hcz37_3, hcz37_4⟩ := zc5 BK116; obtain ⟨hfz37_0, hfz37_1, hfz37_2, hfz37_3, hfz37_4⟩ := zf5 BK116))
  go_ret
  exact ⟨eW, by repeat (first | (with_reducible first | exact HB.out | apply below_alloc | apply pw_below_drewN | apply below_drew1 | refine below_set ?_ GE116.out) | exact HB.out)⟩
 rw [if_pos c3] at H
 have c3b0 : decide (a0_0 < 5) = true := decide_eq_true c3
 clear c3
 obtain ⟨y117, hy117⟩ : ∃ y_ : List Int, y_ = (([a0_1] : List Int)) := ⟨_, rfl⟩
 replace H : ((head_within.f k 256 y117).bind fun t120 => (if t120 = true then ((head_within.f k 65536 (([a0_2] : List Int))).bind fun t124 => (if t124 = true then ((head_within.f k 4096 (([a0_3, a0_4] : List Int))).bind fun t128 => (some t128)) else (some false))) else (some false))) = some r := by first | (rw [hy117]; with_reducible exact H) | (have H2_ := (Option.bind_some _ _).symm.trans H; rw [hy117]; with_reducible exact H2_) | (have H2_ := (Option.bind_some _ _).symm.trans H; with_reducible exact H2_) | with_reducible exact H | (rw [hy117]; exact H) | exact H
 have Ny117 := Aside0.mk hy117
 clear hy117
 replace H := bM H
 obtain ⟨t120, A40, H⟩ := H
 replace H : (if t120 = true then ((head_within.f k 65536 (([a0_2] : List Int))).bind fun t124 => (if t124 = true then ((head_within.f k 4096 (([a0_3, a0_4] : List Int))).bind fun t128 => (some t128)) else (some false))) else (some false)) = some r := H
 have A4 := Aside0.mk A40
 clear A40
 by_cases c5 : t120 = true
 rotate_left
 ·replace c5 := Bool.eq_false_iff.mpr c5
  subst c5
  have H1 : (some false) = some r := by rw [if_neg (show ¬ (false = true) by decide)] at H; exact H
  clear H
  have H := H1
  clear H1
  obtain rfl := Option.some.inj H
  go_enter Tryz.func50, Tryz.ntmps50
  go_wp2_with (first | ((with_reducible refine gate_dst (N := 1) rfl ?_); (try (refine gate_guard (by rfl) ?_; dsimp only)); refine box_event (by rfl) (N := 1) (by rfl) (cs := #[.int .i64 a0_0, .int .i64 a0_1, .int .i64 a0_2, .int .i64 a0_3, .int .i64 a0_4]) (t := 48) gS ?_; intro gb116 hg w31 hbox hb; have BK116 := as_ (hbox); have GW116 := gw hg bA; have GE116 := gw hg bA; replace HB := as_ (below_step bA hb); clear hb hbox hg; obtain ⟨hcz32_0, hcz32_1, hcz32_2, hcz32_3, hcz32_4⟩ := zc5 BK116; obtain ⟨hfz32_0, hfz32_1, hfz32_2, hfz32_3, hfz32_4⟩ := zf5 BK116) | ((with_reducible refine gate_dst (N := 14) rfl ?_); (try (refine gate_guard (by rfl) ?_; dsimp only)); refine Kd.R_lit (Kd.int .i64) _ 3 ?hg (N := 14) ?hd (xs := ([a0_1] : List Int)) (inner := [.int .i64 a0_1]) (ok := fun _ => True) (okp := fun _ => True) ?hr ?hp (fun _ hk => hk) trivial (Below.refl _ _) (Nat.le_refl _) (by simp) ?_; (case hd => rfl); (case hg => rfl); (case hr => first | (go_simp; done) | (go_simp; rfl)); (case hp => exact (Reps.one (show Kd.M (Kd.int .i64) _ _ _ a0_1 [.int .i64 a0_1] from rfl) (Reps.none _ _))); intro v118 w33 ho34 hb hg_ hnew_; clear hg_ hnew_; (first | rw [← Ny117.out] at ho34 | (simp only [Int.reduceToNat] at ho34; rw [← Ny117.out] at ho34)); have HO119 := as_ (Kd.R_lower ho34 (below_size bA)); replace BK116 := bb BK116 hb; replace HB := as_ (below_step bA hb); clear hb ho34; obtain ⟨Ao35, co35, eo35⟩ := Kd.R_slice HO119.out; subst eo35) | (go_at_call 67; (with_reducible refine (head_within.calls k 256 _ _ y117 false _ ?side1 ?side2 A4.out).mono ?_); (case side1 => repeat (first | exact (Kd.R_reads' HO119.out).2.2 | (with_reducible refine Kd.C_alloc ?_ _) | (with_reducible refine Kd.C_drewN ?_ _) | (with_reducible refine Kd.C_drew ?_))); (case side2 => exact (Kd.R_reads' HO119.out).2.1); rintro e w' ⟨rfl, ⟨nd, rfl⟩⟩))
  go_ret
  exact ⟨eW, by repeat (first | (with_reducible first | exact HB.out | apply below_alloc | apply pw_below_drewN | apply below_drew1 | refine below_set ?_ GE116.out) | exact HB.out)⟩
 subst c5
 have H1 : ((head_within.f k 65536 (([a0_2] : List Int))).bind fun t124 => (if t124 = true then ((head_within.f k 4096 (([a0_3, a0_4] : List Int))).bind fun t128 => (some t128)) else (some false))) = some r := by rw [if_pos rfl] at H; exact H
 clear H
 have H := H1
 clear H1
 obtain ⟨y121, hy121⟩ : ∃ y_ : List Int, y_ = (([a0_2] : List Int)) := ⟨_, rfl⟩
 replace H : ((head_within.f k 65536 y121).bind fun t124 => (if t124 = true then ((head_within.f k 4096 (([a0_3, a0_4] : List Int))).bind fun t128 => (some t128)) else (some false))) = some r := by first | (rw [hy121]; with_reducible exact H) | (have H2_ := (Option.bind_some _ _).symm.trans H; rw [hy121]; with_reducible exact H2_) | (have H2_ := (Option.bind_some _ _).symm.trans H; with_reducible exact H2_) | with_reducible exact H | (rw [hy121]; exact H) | exact H
 have Ny121 := Aside0.mk hy121
 clear hy121
 replace H := bM H
 obtain ⟨t124, A60, H⟩ := H
 replace H : (if t124 = true then ((head_within.f k 4096 (([a0_3, a0_4] : List Int))).bind fun t128 => (some t128)) else (some false)) = some r := H
 have A6 := Aside0.mk A60
 clear A60
 by_cases c7 : t124 = true
 rotate_left
 ·replace c7 := Bool.eq_false_iff.mpr c7
  subst c7
  have H1 : (some false) = some r := by rw [if_neg (show ¬ (false = true) by decide)] at H; exact H
  clear H
  have H := H1
  clear H1
  obtain rfl := Option.some.inj H
  go_enter Tryz.func50, Tryz.ntmps50
  go_wp2_with (first | ((with_reducible refine gate_dst (N := 1) rfl ?_); (try (refine gate_guard (by rfl) ?_; dsimp only)); refine box_event (by rfl) (N := 1) (by rfl) (cs := #[.int .i64 a0_0, .int .i64 a0_1, .int .i64 a0_2, .int .i64 a0_3, .int .i64 a0_4]) (t := 48) gS ?_; intro gb116 hg w22 hbox hb; have BK116 := as_ (hbox); have GW116 := gw hg bA; have GE116 := gw hg bA; replace HB := as_ (below_step bA hb); clear hb hbox hg; obtain ⟨hcz23_0, hcz23_1, hcz23_2, hcz23_3, hcz23_4⟩ := zc5 BK116; obtain ⟨hfz23_0, hfz23_1, hfz23_2, hfz23_3, hfz23_4⟩ := zf5 BK116) | ((with_reducible refine gate_dst (N := 14) rfl ?_); (try (refine gate_guard (by rfl) ?_; dsimp only)); refine Kd.R_lit (Kd.int .i64) _ 3 ?hg (N := 14) ?hd (xs := ([a0_1] : List Int)) (inner := [.int .i64 a0_1]) (ok := fun _ => True) (okp := fun _ => True) ?hr ?hp (fun _ hk => hk) trivial (Below.refl _ _) (Nat.le_refl _) (by simp) ?_; (case hd => rfl); (case hg => rfl); (case hr => first | (go_simp; done) | (go_simp; rfl)); (case hp => exact (Reps.one (show Kd.M (Kd.int .i64) _ _ _ a0_1 [.int .i64 a0_1] from rfl) (Reps.none _ _))); intro v118 w24 ho25 hb hg_ hnew_; clear hg_ hnew_; (first | rw [← Ny117.out] at ho25 | (simp only [Int.reduceToNat] at ho25; rw [← Ny117.out] at ho25)); have HO119 := as_ (Kd.R_lower ho25 (below_size bA)); replace BK116 := bb BK116 hb; replace HB := as_ (below_step bA hb); clear hb ho25; obtain ⟨Ao26, co26, eo26⟩ := Kd.R_slice HO119.out; subst eo26) | (go_at_call 67; (with_reducible refine (head_within.calls k 256 _ _ y117 true _ ?side1 ?side2 A4.out).mono ?_); (case side1 => repeat (first | exact (Kd.R_reads' HO119.out).2.2 | (with_reducible refine Kd.C_alloc ?_ _) | (with_reducible refine Kd.C_drewN ?_ _) | (with_reducible refine Kd.C_drew ?_))); (case side2 => exact (Kd.R_reads' HO119.out).2.1); rintro e w' ⟨rfl, ⟨nd, rfl⟩⟩; obtain ⟨hcz27_0, hcz27_1, hcz27_2, hcz27_3, hcz27_4⟩ := zc5 BK116; obtain ⟨hfz27_0, hfz27_1, hfz27_2, hfz27_3, hfz27_4⟩ := zf5 BK116) | ((with_reducible refine gate_dst (N := 20) rfl ?_); (try (refine gate_guard (by rfl) ?_; dsimp only)); refine Kd.R_lit (Kd.int .i64) _ 3 ?hg (N := 20) ?hd (xs := ([a0_2] : List Int)) (inner := [.int .i64 a0_2]) (ok := fun _ => True) (okp := fun _ => True) ?hr ?hp (fun _ hk => hk) trivial (Below.refl _ _) (Nat.le_refl _) (by simp) ?_; (case hd => rfl); (case hg => rfl); (case hr => first | (go_simp; done) | (go_simp; rfl)); (case hp => exact (Reps.one (show Kd.M (Kd.int .i64) _ _ _ a0_2 [.int .i64 a0_2] from rfl) (Reps.none _ _))); intro v122 w28 ho29 hb hg_ hnew_; clear hg_ hnew_; (first | rw [← Ny121.out] at ho29 | (simp only [Int.reduceToNat] at ho29; rw [← Ny121.out] at ho29)); have HO123 := as_ (Kd.R_lower (Kd.R_new' ho29 (Kd.R_lt (by (with_reducible repeat (first | apply Kd.R_alloc | apply Kd.R_drewN | apply Kd.R_drew)); exact HO119.out))) (below_size bA)); replace HO119 := as_ (Kd.R_elder' (by (with_reducible repeat (first | apply Kd.R_alloc | apply Kd.R_drewN | apply Kd.R_drew)); exact HO119.out) (Kd.R_base ho29) hb); replace BK116 := bb BK116 hb; replace HB := as_ (below_step bA hb); clear hb ho29; obtain ⟨Ao30, co30, eo30⟩ := Kd.R_slice HO123.out; subst eo30) | (go_at_call 67; (with_reducible refine (head_within.calls k 65536 _ _ y121 false _ ?side1 ?side2 A6.out).mono ?_); (case side1 => repeat (first | exact (Kd.R_reads' HO123.out).2.2 | (with_reducible refine Kd.C_alloc ?_ _) | (with_reducible refine Kd.C_drewN ?_ _) | (with_reducible refine Kd.C_drew ?_))); (case side2 => exact (Kd.R_reads' HO123.out).2.1); rintro e w' ⟨rfl, ⟨nd, rfl⟩⟩))
  go_ret
  exact ⟨eW, by repeat (first | (with_reducible first | exact HB.out | apply below_alloc | apply pw_below_drewN | apply below_drew1 | refine below_set ?_ GE116.out) | exact HB.out)⟩
 subst c7
 have H1 : ((head_within.f k 4096 (([a0_3, a0_4] : List Int))).bind fun t128 => (some t128)) = some r := by rw [if_pos rfl] at H; exact H
 clear H
 have H := H1
 clear H1
 obtain ⟨y125, hy125⟩ : ∃ y_ : List Int, y_ = (([a0_3, a0_4] : List Int)) := ⟨_, rfl⟩
 replace H : ((head_within.f k 4096 y125).bind fun t128 => (some t128)) = some r := by first | (rw [hy125]; with_reducible exact H) | (have H2_ := (Option.bind_some _ _).symm.trans H; rw [hy125]; with_reducible exact H2_) | (have H2_ := (Option.bind_some _ _).symm.trans H; with_reducible exact H2_) | with_reducible exact H | (rw [hy125]; exact H) | exact H
 have Ny125 := Aside0.mk hy125
 clear hy125
 replace H := bM H
 obtain ⟨t128, A80, H⟩ := H
 replace H : (some t128) = some r := H
 have A8 := Aside0.mk A80
 clear A80
 obtain rfl := Option.some.inj H
 go_enter Tryz.func50, Tryz.ntmps50
 go_wp2_with (first | ((with_reducible refine gate_dst (N := 1) rfl ?_); (try (refine gate_guard (by rfl) ?_; dsimp only)); refine box_event (by rfl) (N := 1) (by rfl) (cs := #[.int .i64 a0_0, .int .i64 a0_1, .int .i64 a0_2, .int .i64 a0_3, .int .i64 a0_4]) (t := 48) gS ?_; intro gb116 hg w9 hbox hb; have BK116 := as_ (hbox); have GW116 := gw hg bA; have GE116 := gw hg bA; replace HB := as_ (below_step bA hb); clear hb hbox hg; obtain ⟨hcz10_0, hcz10_1, hcz10_2, hcz10_3, hcz10_4⟩ := zc5 BK116; obtain ⟨hfz10_0, hfz10_1, hfz10_2, hfz10_3, hfz10_4⟩ := zf5 BK116) | ((with_reducible refine gate_dst (N := 14) rfl ?_); (try (refine gate_guard (by rfl) ?_; dsimp only)); refine Kd.R_lit (Kd.int .i64) _ 3 ?hg (N := 14) ?hd (xs := ([a0_1] : List Int)) (inner := [.int .i64 a0_1]) (ok := fun _ => True) (okp := fun _ => True) ?hr ?hp (fun _ hk => hk) trivial (Below.refl _ _) (Nat.le_refl _) (by simp) ?_; (case hd => rfl); (case hg => rfl); (case hr => first | (go_simp; done) | (go_simp; rfl)); (case hp => exact (Reps.one (show Kd.M (Kd.int .i64) _ _ _ a0_1 [.int .i64 a0_1] from rfl) (Reps.none _ _))); intro v118 w11 ho12 hb hg_ hnew_; clear hg_ hnew_; (first | rw [← Ny117.out] at ho12 | (simp only [Int.reduceToNat] at ho12; rw [← Ny117.out] at ho12)); have HO119 := as_ (Kd.R_lower ho12 (below_size bA)); replace BK116 := bb BK116 hb; replace HB := as_ (below_step bA hb); clear hb ho12; obtain ⟨Ao13, co13, eo13⟩ := Kd.R_slice HO119.out; subst eo13) | (go_at_call 67; (with_reducible refine (head_within.calls k 256 _ _ y117 true _ ?side1 ?side2 A4.out).mono ?_); (case side1 => repeat (first | exact (Kd.R_reads' HO119.out).2.2 | (with_reducible refine Kd.C_alloc ?_ _) | (with_reducible refine Kd.C_drewN ?_ _) | (with_reducible refine Kd.C_drew ?_))); (case side2 => exact (Kd.R_reads' HO119.out).2.1); rintro e w' ⟨rfl, ⟨nd, rfl⟩⟩; obtain ⟨hcz14_0, hcz14_1, hcz14_2, hcz14_3, hcz14_4⟩ := zc5 BK116; obtain ⟨hfz14_0, hfz14_1, hfz14_2, hfz14_3, hfz14_4⟩ := zf5 BK116) | ((with_reducible refine gate_dst (N := 20) rfl ?_); (try (refine gate_guard (by rfl) ?_; dsimp only)); refine Kd.R_lit (Kd.int .i64) _ 3 ?hg (N := 20) ?hd (xs := ([a0_2] : List Int)) (inner := [.int .i64 a0_2]) (ok := fun _ => True) (okp := fun _ => True) ?hr ?hp (fun _ hk => hk) trivial (Below.refl _ _) (Nat.le_refl _) (by simp) ?_; (case hd => rfl); (case hg => rfl); (case hr => first | (go_simp; done) | (go_simp; rfl)); (case hp => exact (Reps.one (show Kd.M (Kd.int .i64) _ _ _ a0_2 [.int .i64 a0_2] from rfl) (Reps.none _ _))); intro v122 w15 ho16 hb hg_ hnew_; clear hg_ hnew_; (first | rw [← Ny121.out] at ho16 | (simp only [Int.reduceToNat] at ho16; rw [← Ny121.out] at ho16)); have HO123 := as_ (Kd.R_lower (Kd.R_new' ho16 (Kd.R_lt (by (with_reducible repeat (first | apply Kd.R_alloc | apply Kd.R_drewN | apply Kd.R_drew)); exact HO119.out))) (below_size bA)); replace HO119 := as_ (Kd.R_elder' (by (with_reducible repeat (first | apply Kd.R_alloc | apply Kd.R_drewN | apply Kd.R_drew)); exact HO119.out) (Kd.R_base ho16) hb); replace BK116 := bb BK116 hb; replace HB := as_ (below_step bA hb); clear hb ho16; obtain ⟨Ao17, co17, eo17⟩ := Kd.R_slice HO123.out; subst eo17) | (go_at_call 67; (with_reducible refine (head_within.calls k 65536 _ _ y121 true _ ?side1 ?side2 A6.out).mono ?_); (case side1 => repeat (first | exact (Kd.R_reads' HO123.out).2.2 | (with_reducible refine Kd.C_alloc ?_ _) | (with_reducible refine Kd.C_drewN ?_ _) | (with_reducible refine Kd.C_drew ?_))); (case side2 => exact (Kd.R_reads' HO123.out).2.1); rintro e w' ⟨rfl, ⟨nd, rfl⟩⟩; obtain ⟨hcz18_0, hcz18_1, hcz18_2, hcz18_3, hcz18_4⟩ := zc5 BK116; obtain ⟨hfz18_0, hfz18_1, hfz18_2, hfz18_3, hfz18_4⟩ := zf5 BK116) | ((with_reducible refine gate_dst (N := 28) rfl ?_); (try (refine gate_guard (by rfl) ?_; dsimp only)); refine Kd.R_lit (Kd.int .i64) _ 3 ?hg (N := 28) ?hd (xs := ([a0_3, a0_4] : List Int)) (inner := [.int .i64 a0_3, .int .i64 a0_4]) (ok := fun _ => True) (okp := fun _ => True) ?hr ?hp (fun _ hk => hk) trivial (Below.refl _ _) (Nat.le_refl _) (by simp) ?_; (case hd => rfl); (case hg => rfl); (case hr => first | (go_simp; done) | (go_simp; rfl)); (case hp => exact (Reps.one (show Kd.M (Kd.int .i64) _ _ _ a0_3 [.int .i64 a0_3] from rfl) (Reps.one (show Kd.M (Kd.int .i64) _ _ _ a0_4 [.int .i64 a0_4] from rfl) (Reps.none _ _)))); intro v126 w19 ho20 hb hg_ hnew_; clear hg_ hnew_; (first | rw [← Ny125.out] at ho20 | (simp only [Int.reduceToNat] at ho20; rw [← Ny125.out] at ho20)); have HO127 := as_ (Kd.R_lower (Kd.R_new' (Kd.R_new' ho20 (Kd.R_lt (by (with_reducible repeat (first | apply Kd.R_alloc | apply Kd.R_drewN | apply Kd.R_drew)); exact HO119.out))) (Kd.R_lt (by (with_reducible repeat (first | apply Kd.R_alloc | apply Kd.R_drewN | apply Kd.R_drew)); exact HO123.out))) (below_size bA)); replace HO119 := as_ (Kd.R_elder' (by (with_reducible repeat (first | apply Kd.R_alloc | apply Kd.R_drewN | apply Kd.R_drew)); exact HO119.out) (Kd.R_base ho20) hb); replace HO123 := as_ (Kd.R_elder' (by (with_reducible repeat (first | apply Kd.R_alloc | apply Kd.R_drewN | apply Kd.R_drew)); exact HO123.out) (Kd.R_base ho20) hb); replace BK116 := bb BK116 hb; replace HB := as_ (below_step bA hb); clear hb ho20; obtain ⟨Ao21, co21, eo21⟩ := Kd.R_slice HO127.out; subst eo21) | (go_at_call 67; (with_reducible refine (head_within.calls k 4096 _ _ y125 t128 _ ?side1 ?side2 A8.out).mono ?_); (case side1 => repeat (first | exact (Kd.R_reads' HO127.out).2.2 | (with_reducible refine Kd.C_alloc ?_ _) | (with_reducible refine Kd.C_drewN ?_ _) | (with_reducible refine Kd.C_drew ?_))); (case side2 => exact (Kd.R_reads' HO127.out).2.1); rintro e w' ⟨rfl, ⟨nd, rfl⟩⟩))
 go_ret
 exact ⟨eW, by repeat (first | (with_reducible first | exact HB.out | apply below_alloc | apply pw_below_drewN | apply below_drew1 | refine below_set ?_ GE116.out) | exact HB.out)⟩
end Go.Proofs.YtggfnlnonigkiaaGreatDoor.P
