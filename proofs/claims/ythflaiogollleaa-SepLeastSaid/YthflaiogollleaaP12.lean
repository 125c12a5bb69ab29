/- What is proved here: for functions of the Go text, a Lean function each, and that the call comes to just what it answers. Conditions: as each contract names them. Written by wip/tools/myprint.py, a driver of the print of the kit. -/
import Derived.Test.YthflaiogollleaaP0
import Derived.Test.YthflaiogollleaaP1
import Derived.Test.YthflaiogollleaaP2
import Derived.Test.YthflaiogollleaaP5
import Derived.Test.YthflaiogollleaaP6
namespace Go.Proofs.Ythflaiogollleaa.P
open Go.RowKit Go.Proofs.YthflaiogollleaaW.PrintWords Go.Proofs.YthflaiogollleaaW.PrintLast Go.Proofs.YthflaiogollleaaW.PrintMore
attribute [local go_sem] max2_int min2_int max_two min_two max_three min_three max_four min_four Go.Proofs.YthflaiogollleaaLaws.str_leq Go.Proofs.YthflaiogollleaaLaws.str_gtr Go.Proofs.YthflaiogollleaaLaws.str_geq Go.Proofs.YthflaiogollleaaLaws.max2_str Go.Proofs.YthflaiogollleaaLaws.min2_str   -- for this text's walks alone
set_option linter.unusedVariables false
set_option linter.unusedSimpArgs false

/-! ### withylaw05_SepThree: function 8 -/
def withylaw05_SepThree.j0 : Nat → ByteArray → ByteArray → ByteArray → Bool → Option (Bool)
  | 0, _, _, _, _ => none
  | k + 1, x3, x4, x5, x43 => if x43 = true then (if (Op.bytesLess x3.toList x4.toList) = true then (if (Op.bytesLess x4.toList x3.toList) = true then ((sep_Least.f k x4 x4).bind fun bt272 => (if bt272.2 = 0 then (none) else ((withylaw05_fixed.f k).bind fun t274 => (some t274)))) else ((sep_Least.f k x4 x3).bind fun bt275 => (if bt275.2 = 0 then (none) else ((withylaw05_fixed.f k).bind fun t277 => (some t277))))) else (if (Op.bytesLess x4.toList x3.toList) = true then ((sep_Least.f k x3 x4).bind fun bt278 => (if bt278.2 = 0 then (none) else ((withylaw05_fixed.f k).bind fun t280 => (some t280)))) else ((sep_Least.f k x3 x3).bind fun bt281 => (if bt281.2 = 0 then (none) else ((withylaw05_fixed.f k).bind fun t283 => (some t283)))))) else ((sep_Least.f k x3 x4).bind fun bt284 => ((sep_Least.f k x4 x5).bind fun bt286 => ((sep_Least.f k x3 x5).bind fun bt288 => ((sep_Common.f k x3 x4).bind fun t290 => ((sep_Common.f k x4 x5).bind fun t291 => (if bt284.2 = 0 then (if bt286.2 = 0 then (if bt288.2 = 0 then ((sep_Common.f k x3 x5).bind fun t292 => (if t292 = (mn t290 t291) then (if (bt288.1.size : Int) = (wrap64 ((mn t290 t291) + 1)) then (if (bt288.1.size : Int) ≤ (mn (bt284.1.size : Int) (bt286.1.size : Int)) then (if 0 ≤ (wrap64 ((mn t290 t291) + 1)) then (if (wrap64 ((mn t290 t291) + 1)) ≤ (x5.size : Int) then ((withyref01_Words.f k (([bt288.1] : List ByteArray)) (([x5.extract 0 ((wrap64 ((mn t290 t291) + 1)) : Int).toNat] : List ByteArray))).bind fun t299 => (if t299 = true then ((withylaw05_fixed.f k).bind fun t300 => (some t300)) else (none))) else (none)) else (none)) else (none)) else (none)) else (none))) else (none)) else (none)) else (none)))))))
def withylaw05_SepThree.f (k : Nat) (a0_0 : ByteArray) (a0_1 : ByteArray) (a0_2 : ByteArray) : Option (Bool) := if 0 ≤ (mn (a0_0.size : Int) 60) then (if (mn (a0_0.size : Int) 60) ≤ (a0_0.size : Int) then (if 0 ≤ (mn (a0_1.size : Int) 60) then (if (mn (a0_1.size : Int) 60) ≤ (a0_1.size : Int) then (if 0 ≤ (mn (a0_2.size : Int) 60) then (if (mn (a0_2.size : Int) 60) ≤ (a0_2.size : Int) then (if ((Op.bytesLess ((a0_0.extract 0 ((mn (a0_0.size : Int) 60) : Int).toNat).toList) ((a0_1.extract 0 ((mn (a0_1.size : Int) 60) : Int).toNat).toList)) = true) then (withylaw05_SepThree.j0 k (a0_0.extract 0 ((mn (a0_0.size : Int) 60) : Int).toNat) (a0_1.extract 0 ((mn (a0_1.size : Int) 60) : Int).toNat) (a0_2.extract 0 ((mn (a0_2.size : Int) 60) : Int).toNat) (!(Op.bytesLess ((a0_1.extract 0 ((mn (a0_1.size : Int) 60) : Int).toNat).toList) ((a0_2.extract 0 ((mn (a0_2.size : Int) 60) : Int).toNat).toList)))) else (withylaw05_SepThree.j0 k (a0_0.extract 0 ((mn (a0_0.size : Int) 60) : Int).toNat) (a0_1.extract 0 ((mn (a0_1.size : Int) 60) : Int).toNat) (a0_2.extract 0 ((mn (a0_2.size : Int) 60) : Int).toNat) true)) else (none)) else (none)) else (none)) else (none)) else (none)) else (none)
theorem withylaw05_SepThree.mono_l : ∀ k, (∀ y0 y1 y2 y3, LeO (withylaw05_SepThree.j0 k y0 y1 y2 y3) (withylaw05_SepThree.j0 (k + 1) y0 y1 y2 y3))
  | 0 => fun _ _ _ _ r h => by simp [withylaw05_SepThree.j0] at h
  | k + 1 => by
    have ih0 := withylaw05_SepThree.mono_l k
    · intro y0 y1 y2 y3
      unfold withylaw05_SepThree.j0
      repeat' first
      | (with_reducible exact ih0 _ _ _ _)
      | (with_reducible exact sep_Common.mono _ _ _)
      | (with_reducible exact sep_Least.mono _ _ _)
      | (with_reducible exact withylaw05_fixed.mono _)
      | (with_reducible exact withyref01_Words.mono _ _ _)
      | (with_reducible exact LeO.refl _)
      | (with_reducible exact LeO.none _)
      | (with_reducible refine LeO.ite ?_ ?_)
      | (with_reducible refine LeO.bind ?_ (fun _ => ?_))
      | exact ih0 _ _ _ _
      | exact sep_Common.mono _ _ _
      | exact sep_Least.mono _ _ _
      | exact withylaw05_fixed.mono _
      | exact withyref01_Words.mono _ _ _
      | exact LeO.none _
      | refine LeO.ite ?_ ?_
      | refine LeO.bind ?_ (fun _ => ?_)
theorem withylaw05_SepThree.mono : ∀ a0 a1 a2 k, LeO (withylaw05_SepThree.f k a0 a1 a2) (withylaw05_SepThree.f (k + 1) a0 a1 a2) := by
  intro a0 a1 a2 k
  have ih0 := withylaw05_SepThree.mono_l k
  unfold withylaw05_SepThree.f
  repeat' first
      | (with_reducible exact ih0 _ _ _ _)
      | (with_reducible exact sep_Common.mono _ _ _)
      | (with_reducible exact sep_Least.mono _ _ _)
      | (with_reducible exact withylaw05_fixed.mono _)
      | (with_reducible exact withyref01_Words.mono _ _ _)
      | (with_reducible exact LeO.refl _)
      | (with_reducible exact LeO.none _)
      | (with_reducible refine LeO.ite ?_ ?_)
      | (with_reducible refine LeO.bind ?_ (fun _ => ?_))
      | exact ih0 _ _ _ _
      | exact sep_Common.mono _ _ _
      | exact sep_Least.mono _ _ _
      | exact withylaw05_fixed.mono _
      | exact withyref01_Words.mono _ _ _
      | exact LeO.none _
      | refine LeO.ite ?_ ?_
      | refine LeO.bind ?_ (fun _ => ?_)
set_option maxHeartbeats 8000000 in
set_option maxRecDepth 100000 in
theorem withylaw05_SepThree.calls (k : Nat) (a0_0 : ByteArray) (a0_1 : ByteArray) (a0_2 : ByteArray) (r : Bool) (w : World) (h : withylaw05_SepThree.f k a0_0 a0_1 a0_2 = some r) :
    Calls Try.prog 8 #[.agg #[.string a0_0, .string a0_1, .string a0_2]] w fun e w' => e = .returned (.bool r) ∧ Below w.heap.size w w' := by
  have hu39 := Try.underlying39
  have HB := Aside0.mk (Below.refl w.heap.size w)
  have H : (if 0 ≤ (mn (a0_0.size : Int) 60) then (if (mn (a0_0.size : Int) 60) ≤ (a0_0.size : Int) then (if 0 ≤ (mn (a0_1.size : Int) 60) then (if (mn (a0_1.size : Int) 60) ≤ (a0_1.size : Int) then (if 0 ≤ (mn (a0_2.size : Int) 60) then (if (mn (a0_2.size : Int) 60) ≤ (a0_2.size : Int) then (if ((Op.bytesLess ((a0_0.extract 0 ((mn (a0_0.size : Int) 60) : Int).toNat).toList) ((a0_1.extract 0 ((mn (a0_1.size : Int) 60) : Int).toNat).toList)) = true) then (withylaw05_SepThree.j0 k (a0_0.extract 0 ((mn (a0_0.size : Int) 60) : Int).toNat) (a0_1.extract 0 ((mn (a0_1.size : Int) 60) : Int).toNat) (a0_2.extract 0 ((mn (a0_2.size : Int) 60) : Int).toNat) (!(Op.bytesLess ((a0_1.extract 0 ((mn (a0_1.size : Int) 60) : Int).toNat).toList) ((a0_2.extract 0 ((mn (a0_2.size : Int) 60) : Int).toNat).toList)))) else (withylaw05_SepThree.j0 k (a0_0.extract 0 ((mn (a0_0.size : Int) 60) : Int).toNat) (a0_1.extract 0 ((mn (a0_1.size : Int) 60) : Int).toNat) (a0_2.extract 0 ((mn (a0_2.size : Int) 60) : Int).toNat) true)) else (none)) else (none)) else (none)) else (none)) else (none)) else (none)) = some r := h
  clear h
  obtain ⟨ji2, hji2⟩ : ∃ j_ : Int, (mn (a0_0.size : Int) 60) = j_ := ⟨_, rfl⟩
  replace H : (if 0 ≤ (ji2) then (if (ji2) ≤ (a0_0.size : Int) then (if 0 ≤ (mn (a0_1.size : Int) 60) then (if (mn (a0_1.size : Int) 60) ≤ (a0_1.size : Int) then (if 0 ≤ (mn (a0_2.size : Int) 60) then (if (mn (a0_2.size : Int) 60) ≤ (a0_2.size : Int) then (if ((Op.bytesLess ((a0_0.extract 0 ((ji2) : Int).toNat).toList) ((a0_1.extract 0 ((mn (a0_1.size : Int) 60) : Int).toNat).toList)) = true) then (withylaw05_SepThree.j0 k (a0_0.extract 0 ((ji2) : Int).toNat) (a0_1.extract 0 ((mn (a0_1.size : Int) 60) : Int).toNat) (a0_2.extract 0 ((mn (a0_2.size : Int) 60) : Int).toNat) (!(Op.bytesLess ((a0_1.extract 0 ((mn (a0_1.size : Int) 60) : Int).toNat).toList) ((a0_2.extract 0 ((mn (a0_2.size : Int) 60) : Int).toNat).toList)))) else (withylaw05_SepThree.j0 k (a0_0.extract 0 ((ji2) : Int).toNat) (a0_1.extract 0 ((mn (a0_1.size : Int) 60) : Int).toNat) (a0_2.extract 0 ((mn (a0_2.size : Int) 60) : Int).toNat) true)) else (none)) else (none)) else (none)) else (none)) else (none)) else (none)) = some r := by first | (rw [hji2] at H; exact H) | (simp only [hji2] at H ⊢; exact H)
  (try (have hji2h : ji2 ≤ 60 := by (rw [← hji2]; unfold mn; (repeat' split) <;> omega)))
  (try (have hji2g : ji2 ≤ 64 := by omega))
  (try (have hji2l : 0 ≤ ji2 := by (rw [← hji2]; unfold mn; (repeat' split) <;> omega)))
  (try (have hji2m : 0 ≤ ji2 := by omega))
  have hji2_ : (if 60 < (a0_0.size : Int) then 60 else (a0_0.size : Int)) = ji2 := hji2
  by_cases c3 : 0 ≤ (ji2)
  · rw [if_pos c3] at H
    have c3b0 := eq_true c3
    have c3b1 : decide (0 ≤ (ji2)) = true := decide_eq_true c3
    clear c3
    by_cases c4 : (ji2) ≤ (a0_0.size : Int)
    · rw [if_pos c4] at H
      have c4b0 := eq_true c4
      have c4b1 : decide ((ji2) ≤ (a0_0.size : Int)) = true := decide_eq_true c4
      clear c4
      obtain ⟨js5, hjs5⟩ : ∃ j_ : ByteArray, (a0_0.extract 0 ((ji2) : Int).toNat) = j_ := ⟨_, rfl⟩
      replace H : (if 0 ≤ (mn (a0_1.size : Int) 60) then (if (mn (a0_1.size : Int) 60) ≤ (a0_1.size : Int) then (if 0 ≤ (mn (a0_2.size : Int) 60) then (if (mn (a0_2.size : Int) 60) ≤ (a0_2.size : Int) then (if ((Op.bytesLess ((js5).toList) ((a0_1.extract 0 ((mn (a0_1.size : Int) 60) : Int).toNat).toList)) = true) then (withylaw05_SepThree.j0 k js5 (a0_1.extract 0 ((mn (a0_1.size : Int) 60) : Int).toNat) (a0_2.extract 0 ((mn (a0_2.size : Int) 60) : Int).toNat) (!(Op.bytesLess ((a0_1.extract 0 ((mn (a0_1.size : Int) 60) : Int).toNat).toList) ((a0_2.extract 0 ((mn (a0_2.size : Int) 60) : Int).toNat).toList)))) else (withylaw05_SepThree.j0 k js5 (a0_1.extract 0 ((mn (a0_1.size : Int) 60) : Int).toNat) (a0_2.extract 0 ((mn (a0_2.size : Int) 60) : Int).toNat) true)) else (none)) else (none)) else (none)) else (none)) = some r := by first | (rw [hjs5] at H; exact H) | (simp only [hjs5] at H ⊢; exact H)
      obtain ⟨ji6, hji6⟩ : ∃ j_ : Int, (mn (a0_1.size : Int) 60) = j_ := ⟨_, rfl⟩
      replace H : (if 0 ≤ (ji6) then (if (ji6) ≤ (a0_1.size : Int) then (if 0 ≤ (mn (a0_2.size : Int) 60) then (if (mn (a0_2.size : Int) 60) ≤ (a0_2.size : Int) then (if ((Op.bytesLess ((js5).toList) ((a0_1.extract 0 ((ji6) : Int).toNat).toList)) = true) then (withylaw05_SepThree.j0 k js5 (a0_1.extract 0 ((ji6) : Int).toNat) (a0_2.extract 0 ((mn (a0_2.size : Int) 60) : Int).toNat) (!(Op.bytesLess ((a0_1.extract 0 ((ji6) : Int).toNat).toList) ((a0_2.extract 0 ((mn (a0_2.size : Int) 60) : Int).toNat).toList)))) else (withylaw05_SepThree.j0 k js5 (a0_1.extract 0 ((ji6) : Int).toNat) (a0_2.extract 0 ((mn (a0_2.size : Int) 60) : Int).toNat) true)) else (none)) else (none)) else (none)) else (none)) = some r := by first | (rw [hji6] at H; exact H) | (simp only [hji6] at H ⊢; exact H)
      (try (have hji6h : ji6 ≤ 60 := by (rw [← hji6]; unfold mn; (repeat' split) <;> omega)))
      (try (have hji6g : ji6 ≤ 64 := by omega))
      (try (have hji6l : 0 ≤ ji6 := by (rw [← hji6]; unfold mn; (repeat' split) <;> omega)))
      (try (have hji6m : 0 ≤ ji6 := by omega))
      have hji6_ : (if 60 < (a0_1.size : Int) then 60 else (a0_1.size : Int)) = ji6 := hji6
      by_cases c7 : 0 ≤ (ji6)
      · rw [if_pos c7] at H
        have c7b0 := eq_true c7
        have c7b1 : decide (0 ≤ (ji6)) = true := decide_eq_true c7
        clear c7
        by_cases c8 : (ji6) ≤ (a0_1.size : Int)
        · rw [if_pos c8] at H
          have c8b0 := eq_true c8
          have c8b1 : decide ((ji6) ≤ (a0_1.size : Int)) = true := decide_eq_true c8
          clear c8
          obtain ⟨js9, hjs9⟩ : ∃ j_ : ByteArray, (a0_1.extract 0 ((ji6) : Int).toNat) = j_ := ⟨_, rfl⟩
          replace H : (if 0 ≤ (mn (a0_2.size : Int) 60) then (if (mn (a0_2.size : Int) 60) ≤ (a0_2.size : Int) then (if ((Op.bytesLess ((js5).toList) ((js9).toList)) = true) then (withylaw05_SepThree.j0 k js5 js9 (a0_2.extract 0 ((mn (a0_2.size : Int) 60) : Int).toNat) (!(Op.bytesLess ((js9).toList) ((a0_2.extract 0 ((mn (a0_2.size : Int) 60) : Int).toNat).toList)))) else (withylaw05_SepThree.j0 k js5 js9 (a0_2.extract 0 ((mn (a0_2.size : Int) 60) : Int).toNat) true)) else (none)) else (none)) = some r := by first | (rw [hjs9] at H; exact H) | (simp only [hjs9] at H ⊢; exact H)
          obtain ⟨ji10, hji10⟩ : ∃ j_ : Int, (mn (a0_2.size : Int) 60) = j_ := ⟨_, rfl⟩
          replace H : (if 0 ≤ (ji10) then (if (ji10) ≤ (a0_2.size : Int) then (if ((Op.bytesLess ((js5).toList) ((js9).toList)) = true) then (withylaw05_SepThree.j0 k js5 js9 (a0_2.extract 0 ((ji10) : Int).toNat) (!(Op.bytesLess ((js9).toList) ((a0_2.extract 0 ((ji10) : Int).toNat).toList)))) else (withylaw05_SepThree.j0 k js5 js9 (a0_2.extract 0 ((ji10) : Int).toNat) true)) else (none)) else (none)) = some r := by first | (rw [hji10] at H; exact H) | (simp only [hji10] at H ⊢; exact H)
          (try (have hji10h : ji10 ≤ 60 := by (rw [← hji10]; unfold mn; (repeat' split) <;> omega)))
          (try (have hji10g : ji10 ≤ 64 := by omega))
          (try (have hji10l : 0 ≤ ji10 := by (rw [← hji10]; unfold mn; (repeat' split) <;> omega)))
          (try (have hji10m : 0 ≤ ji10 := by omega))
          have hji10_ : (if 60 < (a0_2.size : Int) then 60 else (a0_2.size : Int)) = ji10 := hji10
          by_cases c11 : 0 ≤ (ji10)
          · rw [if_pos c11] at H
            have c11b0 := eq_true c11
            have c11b1 : decide (0 ≤ (ji10)) = true := decide_eq_true c11
            clear c11
            by_cases c12 : (ji10) ≤ (a0_2.size : Int)
            · rw [if_pos c12] at H
              have c12b0 := eq_true c12
              have c12b1 : decide ((ji10) ≤ (a0_2.size : Int)) = true := decide_eq_true c12
              clear c12
              obtain ⟨js13, hjs13⟩ : ∃ j_ : ByteArray, (a0_2.extract 0 ((ji10) : Int).toNat) = j_ := ⟨_, rfl⟩
              replace H : (if ((Op.bytesLess ((js5).toList) ((js9).toList)) = true) then (withylaw05_SepThree.j0 k js5 js9 js13 (!(Op.bytesLess ((js9).toList) ((js13).toList)))) else (withylaw05_SepThree.j0 k js5 js9 js13 true)) = some r := by first | (rw [hjs13] at H; exact H) | (simp only [hjs13] at H ⊢; exact H)
              have HC14 := Aside0.mk H
              clear H
              go_enter Try.func8, Try.ntmps8
              (try simp only [List.append_eq, List.cons_append, List.nil_append])
              go_upto_region 2 with (first | ((with_reducible refine gate_dst (N := 1) rfl ?_); (try (refine gate_guard (by rfl) ?_; dsimp only)); refine box_event ?hg (N := 1) ?hd (cs := #[.string a0_0, .string a0_1, .string a0_2]) (t := 39) ?hr ?_; (case hd => rfl); (case hg => rfl); (case hr => first | (go_simp; done) | (go_simp; rfl)); intro gb271 hg w15 hbox hb; have n0_ := Aside0.mk (below_step (by repeat (first | (with_reducible first | exact HB.out | apply below_alloc | apply pw_below_drewN | apply below_drew1) | exact HB.out)) hb); have n1_ := Aside0.mk (hbox); have n2_ := Aside0.mk ((by rw [hg]; exact (below_size (by repeat (first | (with_reducible first | exact HB.out | apply below_alloc | apply pw_below_drewN | apply below_drew1) | exact HB.out))) : w.heap.size ≤ gb271)); have n3_ := Aside0.mk ((by rw [hg]; exact (below_size (by repeat (first | (with_reducible first | exact HB.out | apply below_alloc | apply pw_below_drewN | apply below_drew1) | exact HB.out))) : w.heap.size ≤ gb271)); clear HB; have HB := n0_; have BK271 := n1_; have GW271 := n2_; have GE271 := n3_; clear n0_ n1_ n2_ n3_; clear hb hbox hg; have hcz16_0 : w15.cell? ⟨gb271, 0, none⟩ = some (.string a0_0) := (blk_cell BK271.out 0).trans rfl; have hcz16_1 : w15.cell? ⟨gb271, 1, none⟩ = some (.string a0_1) := (blk_cell BK271.out 1).trans rfl; have hcz16_2 : w15.cell? ⟨gb271, 2, none⟩ = some (.string a0_2) := (blk_cell BK271.out 2).trans rfl; have hfz16_0 := blk_frozen BK271.out 0; have hfz16_1 := blk_frozen BK271.out 1; have hfz16_2 := blk_frozen BK271.out 2))
              repeat (go_quiet (first | ((with_reducible refine gate_dst (N := 1) rfl ?_); (try (refine gate_guard (by rfl) ?_; dsimp only)); refine box_event ?hg (N := 1) ?hd (cs := #[.string a0_0, .string a0_1, .string a0_2]) (t := 39) ?hr ?_; (case hd => rfl); (case hg => rfl); (case hr => first | (go_simp; done) | (go_simp; rfl)); intro gb271 hg w15 hbox hb; have n0_ := Aside0.mk (below_step (by repeat (first | (with_reducible first | exact HB.out | apply below_alloc | apply pw_below_drewN | apply below_drew1) | exact HB.out)) hb); have n1_ := Aside0.mk (hbox); have n2_ := Aside0.mk ((by rw [hg]; exact (below_size (by repeat (first | (with_reducible first | exact HB.out | apply below_alloc | apply pw_below_drewN | apply below_drew1) | exact HB.out))) : w.heap.size ≤ gb271)); have n3_ := Aside0.mk ((by rw [hg]; exact (below_size (by repeat (first | (with_reducible first | exact HB.out | apply below_alloc | apply pw_below_drewN | apply below_drew1) | exact HB.out))) : w.heap.size ≤ gb271)); clear HB; have HB := n0_; have BK271 := n1_; have GW271 := n2_; have GE271 := n3_; clear n0_ n1_ n2_ n3_; clear hb hbox hg; have hcz16_0 : w15.cell? ⟨gb271, 0, none⟩ = some (.string a0_0) := (blk_cell BK271.out 0).trans rfl; have hcz16_1 : w15.cell? ⟨gb271, 1, none⟩ = some (.string a0_1) := (blk_cell BK271.out 1).trans rfl; have hcz16_2 : w15.cell? ⟨gb271, 2, none⟩ = some (.string a0_2) := (blk_cell BK271.out 2).trans rfl; have hfz16_0 := blk_frozen BK271.out 0; have hfz16_1 := blk_frozen BK271.out 1; have hfz16_2 := blk_frozen BK271.out 2)); go_upto_region 2 with (first | ((with_reducible refine gate_dst (N := 1) rfl ?_); (try (refine gate_guard (by rfl) ?_; dsimp only)); refine box_event ?hg (N := 1) ?hd (cs := #[.string a0_0, .string a0_1, .string a0_2]) (t := 39) ?hr ?_; (case hd => rfl); (case hg => rfl); (case hr => first | (go_simp; done) | (go_simp; rfl)); intro gb271 hg w15 hbox hb; have n0_ := Aside0.mk (below_step (by repeat (first | (with_reducible first | exact HB.out | apply below_alloc | apply pw_below_drewN | apply below_drew1) | exact HB.out)) hb); have n1_ := Aside0.mk (hbox); have n2_ := Aside0.mk ((by rw [hg]; exact (below_size (by repeat (first | (with_reducible first | exact HB.out | apply below_alloc | apply pw_below_drewN | apply below_drew1) | exact HB.out))) : w.heap.size ≤ gb271)); have n3_ := Aside0.mk ((by rw [hg]; exact (below_size (by repeat (first | (with_reducible first | exact HB.out | apply below_alloc | apply pw_below_drewN | apply below_drew1) | exact HB.out))) : w.heap.size ≤ gb271)); clear HB; have HB := n0_; have BK271 := n1_; have GW271 := n2_; have GE271 := n3_; clear n0_ n1_ n2_ n3_; clear hb hbox hg; have hcz16_0 : w15.cell? ⟨gb271, 0, none⟩ = some (.string a0_0) := (blk_cell BK271.out 0).trans rfl; have hcz16_1 : w15.cell? ⟨gb271, 1, none⟩ = some (.string a0_1) := (blk_cell BK271.out 1).trans rfl; have hcz16_2 : w15.cell? ⟨gb271, 2, none⟩ = some (.string a0_2) := (blk_cell BK271.out 2).trans rfl; have hfz16_0 := blk_frozen BK271.out 0; have hfz16_1 := blk_frozen BK271.out 1; have hfz16_2 := blk_frozen BK271.out 2)))
              (try simp only [Act.put, List.setIfInBounds_toArray, List.set_cons_zero, List.set_cons_succ])
              go_cut [43] (fun v43 wc => ∃ (kq : Nat) (x43_13 : Bool), v43 = .bool x43_13 ∧ Aside0 (withylaw05_SepThree.j0 kq js5 js9 js13 x43_13 = some r) ∧ Aside0 (kq ≤ k) ∧ Aside0 (wc.heap[gb271]? = some (.cells #[.string a0_0, .string a0_1, .string a0_2] 39 (0, 0))) ∧ Aside0 (Below w.heap.size w wc))
              case first =>
                have H := HC14.out
                clear HC14
                by_cases c17 : ((Op.bytesLess ((js5).toList) ((js9).toList)) = true)
                · rw [if_pos c17] at H
                  have c17b0 : (Op.bytesLess ((js5).toList) ((js9).toList)) = true := c17
                  clear c17
                  (first | rw [c17b0] | (simp only [i64_w, i32_w]; rw [c17b0]) | rw [c17b1] | skip)
                  have H' := Aside0.mk H
                  clear H
                  go_wp2
                  repeat (go_quiet (fail); try go_wp2)
                  go_meet
                  case rel => exact ⟨_, (!(Op.bytesLess ((js9).toList) ((js13).toList))), (by first | rfl | (simp; done) | (simp only [← hjs9, ← hjs13] <;> (first | rfl | simp)) | (simp [*]; done)), H', ⟨by first | omega | exact Nat.le_refl _⟩, ⟨by (with_reducible repeat (first | refine blk_drewN ?_ _ | refine blk_drew ?_ | refine blk_alloc ?_ _)); exact BK271.out⟩, ⟨by repeat (first | (with_reducible first | exact HB.out | apply below_alloc | apply pw_below_drewN | apply below_drew1 | refine below_set ?_ GE271.out) | exact HB.out)⟩⟩
                · rw [if_neg c17] at H
                  have c17b0 : (Op.bytesLess ((js5).toList) ((js9).toList)) = false := by simpa using c17
                  clear c17
                  (first | rw [c17b0] | (simp only [i64_w, i32_w]; rw [c17b0]) | rw [c17b1] | skip)
                  have H' := Aside0.mk H
                  clear H
                  go_wp2
                  repeat (go_quiet (fail); try go_wp2)
                  go_meet
                  case rel => exact ⟨_, (true), (by first | rfl | (simp; done) | (simp [*]; done)), H', ⟨by first | omega | exact Nat.le_refl _⟩, ⟨by (with_reducible repeat (first | refine blk_drewN ?_ _ | refine blk_drew ?_ | refine blk_alloc ?_ _)); exact BK271.out⟩, ⟨by repeat (first | (with_reducible first | exact HB.out | apply below_alloc | apply pw_below_drewN | apply below_drew1 | refine below_set ?_ GE271.out) | exact HB.out)⟩⟩
              case rest =>
                clear HC14
                try clear c1
                try clear p2
                try clear c3
                try clear c3b0
                try clear c3b1
                try clear c4
                try clear c4b0
                try clear c4b1
                try clear c7
                try clear c7b0
                try clear c7b1
                try clear c8
                try clear c8b0
                try clear c8b1
                try clear c11
                try clear c11b0
                try clear c11b1
                try clear c12
                try clear c12b0
                try clear c12b1
                try clear c17
                try clear c17b0
                try clear c17b1
                try clear hcz16_0
                try clear hcz16_1
                try clear hcz16_2
                try clear hfz16_0
                try clear hfz16_1
                try clear hfz16_2
                obtain ⟨kq, x43_13, rfl, HA, HJ13, BK271, HB⟩ := hcut
                cases kq with
                | zero => exact absurd HA.out (by simp [withylaw05_SepThree.j0])
                | succ kj13 =>
                  have H := HA.out
                  clear HA
                  simp only [withylaw05_SepThree.j0] at H
                  by_cases c18 : x43_13 = true
                  · subst c18
                    have H1 : (if (Op.bytesLess js5.toList js9.toList) = true then (if (Op.bytesLess js9.toList js5.toList) = true then ((sep_Least.f kj13 js9 js9).bind fun bt272 => (if bt272.2 = 0 then (none) else ((withylaw05_fixed.f kj13).bind fun t274 => (some t274)))) else ((sep_Least.f kj13 js9 js5).bind fun bt275 => (if bt275.2 = 0 then (none) else ((withylaw05_fixed.f kj13).bind fun t277 => (some t277))))) else (if (Op.bytesLess js9.toList js5.toList) = true then ((sep_Least.f kj13 js5 js9).bind fun bt278 => (if bt278.2 = 0 then (none) else ((withylaw05_fixed.f kj13).bind fun t280 => (some t280)))) else ((sep_Least.f kj13 js5 js5).bind fun bt281 => (if bt281.2 = 0 then (none) else ((withylaw05_fixed.f kj13).bind fun t283 => (some t283)))))) = some r := by rw [if_pos rfl] at H; exact H
                    clear H
                    have H := H1
                    clear H1
                    by_cases c19 : (Op.bytesLess js5.toList js9.toList) = true
                    · rw [if_pos c19] at H
                      have c19b0 : (Op.bytesLess js5.toList js9.toList) = true := c19
                      clear c19
                      by_cases c20 : (Op.bytesLess js9.toList js5.toList) = true
                      · rw [if_pos c20] at H
                        have c20b0 : (Op.bytesLess js9.toList js5.toList) = true := c20
                        clear c20
                        replace H := Option.bind_eq_some_iff.mp H
                        obtain ⟨⟨t272, t273⟩, A210, H⟩ := H
                        replace H : (if t273 = 0 then (none) else ((withylaw05_fixed.f kj13).bind fun t274 => (some t274))) = some r := H
                        have A21 := Aside0.mk A210
                        clear A210
                        by_cases c22 : t273 = 0
                        · rw [if_pos c22] at H
                          exact absurd H (by simp)
                        · rw [if_neg c22] at H
                          have c22b0 : (t273 == 0) = false := beq_eq_false_iff_ne.mpr c22
                          have c22b1 : (t273 != 0) = true := bne_iff_ne.mpr c22
                          replace H := Option.bind_eq_some_iff.mp H
                          obtain ⟨t274, A230, H⟩ := H
                          replace H : (some t274) = some r := H
                          have A23 := Aside0.mk A230
                          clear A230
                          obtain rfl := Option.some.inj H
                          go_wp2_with (first | (go_at_call 10; (with_reducible refine (sep_Least.calls kj13 js9 js9 t272 t273 _ A21.out).mono ?_); rintro e w24 ⟨rfl, hb⟩; have n0_ := Aside0.mk (blk_below (g := gb271) (o := .cells #[.string a0_0, .string a0_1, .string a0_2] 39 (0, 0)) (by (with_reducible repeat (first | refine blk_drewN ?_ _ | refine blk_drew ?_ | refine blk_alloc ?_ _)); exact BK271.out) hb); have n1_ := Aside0.mk (below_step (by repeat (first | (with_reducible first | exact HB.out | apply below_alloc | apply pw_below_drewN | apply below_drew1 | refine below_set ?_ GE271.out) | exact HB.out)) hb); clear BK271; clear HB; have BK271 := n0_; have HB := n1_; clear n0_ n1_; (try clear hb); (try clear hb2); (try clear hk); (try clear hi)) | (go_at_call 20; (with_reducible refine (withylaw05_fixed.calls kj13  t274 _ A23.out).mono ?_); rintro e w25 ⟨rfl, hb⟩; have n0_ := Aside0.mk (blk_below (g := gb271) (o := .cells #[.string a0_0, .string a0_1, .string a0_2] 39 (0, 0)) (by (with_reducible repeat (first | refine blk_drewN ?_ _ | refine blk_drew ?_ | refine blk_alloc ?_ _)); exact BK271.out) hb); have n1_ := Aside0.mk (below_step (by repeat (first | (with_reducible first | exact HB.out | apply below_alloc | apply pw_below_drewN | apply below_drew1 | refine below_set ?_ GE271.out) | exact HB.out)) hb); clear BK271; clear HB; have BK271 := n0_; have HB := n1_; clear n0_ n1_; (try clear hb); (try clear hb2); (try clear hk); (try clear hi)))
                          repeat (go_quiet (first | (go_at_call 10; (with_reducible refine (sep_Least.calls kj13 js9 js9 t272 t273 _ A21.out).mono ?_); rintro e w24 ⟨rfl, hb⟩; have n0_ := Aside0.mk (blk_below (g := gb271) (o := .cells #[.string a0_0, .string a0_1, .string a0_2] 39 (0, 0)) (by (with_reducible repeat (first | refine blk_drewN ?_ _ | refine blk_drew ?_ | refine blk_alloc ?_ _)); exact BK271.out) hb); have n1_ := Aside0.mk (below_step (by repeat (first | (with_reducible first | exact HB.out | apply below_alloc | apply pw_below_drewN | apply below_drew1 | refine below_set ?_ GE271.out) | exact HB.out)) hb); clear BK271; clear HB; have BK271 := n0_; have HB := n1_; clear n0_ n1_; (try clear hb); (try clear hb2); (try clear hk); (try clear hi)) | (go_at_call 20; (with_reducible refine (withylaw05_fixed.calls kj13  t274 _ A23.out).mono ?_); rintro e w25 ⟨rfl, hb⟩; have n0_ := Aside0.mk (blk_below (g := gb271) (o := .cells #[.string a0_0, .string a0_1, .string a0_2] 39 (0, 0)) (by (with_reducible repeat (first | refine blk_drewN ?_ _ | refine blk_drew ?_ | refine blk_alloc ?_ _)); exact BK271.out) hb); have n1_ := Aside0.mk (below_step (by repeat (first | (with_reducible first | exact HB.out | apply below_alloc | apply pw_below_drewN | apply below_drew1 | refine below_set ?_ GE271.out) | exact HB.out)) hb); clear BK271; clear HB; have BK271 := n0_; have HB := n1_; clear n0_ n1_; (try clear hb); (try clear hb2); (try clear hk); (try clear hi))); try go_wp2_with (first | (go_at_call 10; (with_reducible refine (sep_Least.calls kj13 js9 js9 t272 t273 _ A21.out).mono ?_); rintro e w24 ⟨rfl, hb⟩; have n0_ := Aside0.mk (blk_below (g := gb271) (o := .cells #[.string a0_0, .string a0_1, .string a0_2] 39 (0, 0)) (by (with_reducible repeat (first | refine blk_drewN ?_ _ | refine blk_drew ?_ | refine blk_alloc ?_ _)); exact BK271.out) hb); have n1_ := Aside0.mk (below_step (by repeat (first | (with_reducible first | exact HB.out | apply below_alloc | apply pw_below_drewN | apply below_drew1 | refine below_set ?_ GE271.out) | exact HB.out)) hb); clear BK271; clear HB; have BK271 := n0_; have HB := n1_; clear n0_ n1_; (try clear hb); (try clear hb2); (try clear hk); (try clear hi)) | (go_at_call 20; (with_reducible refine (withylaw05_fixed.calls kj13  t274 _ A23.out).mono ?_); rintro e w25 ⟨rfl, hb⟩; have n0_ := Aside0.mk (blk_below (g := gb271) (o := .cells #[.string a0_0, .string a0_1, .string a0_2] 39 (0, 0)) (by (with_reducible repeat (first | refine blk_drewN ?_ _ | refine blk_drew ?_ | refine blk_alloc ?_ _)); exact BK271.out) hb); have n1_ := Aside0.mk (below_step (by repeat (first | (with_reducible first | exact HB.out | apply below_alloc | apply pw_below_drewN | apply below_drew1 | refine below_set ?_ GE271.out) | exact HB.out)) hb); clear BK271; clear HB; have BK271 := n0_; have HB := n1_; clear n0_ n1_; (try clear hb); (try clear hb2); (try clear hk); (try clear hi))))
                          go_ret
                          exact ⟨by first | rfl | (simp [errW_none, errW_some] <;> rfl) | (simp only [← hji2, ← hjs5, ← hji6, ← hjs9, ← hji10, ← hjs13]; first | rfl | (simp [errW_none, errW_some] <;> rfl)) | (simp [*, errW_none, errW_some] <;> rfl), by repeat (first | (with_reducible first | exact HB.out | apply below_alloc | apply pw_below_drewN | apply below_drew1 | refine below_set ?_ GE271.out) | exact HB.out)⟩
                      · rw [if_neg c20] at H
                        have c20b0 : (Op.bytesLess js9.toList js5.toList) = false := by simpa using c20
                        clear c20
                        replace H := Option.bind_eq_some_iff.mp H
                        obtain ⟨⟨t275, t276⟩, A260, H⟩ := H
                        replace H : (if t276 = 0 then (none) else ((withylaw05_fixed.f kj13).bind fun t277 => (some t277))) = some r := H
                        have A26 := Aside0.mk A260
                        clear A260
                        by_cases c27 : t276 = 0
                        · rw [if_pos c27] at H
                          exact absurd H (by simp)
                        · rw [if_neg c27] at H
                          have c27b0 : (t276 == 0) = false := beq_eq_false_iff_ne.mpr c27
                          have c27b1 : (t276 != 0) = true := bne_iff_ne.mpr c27
                          replace H := Option.bind_eq_some_iff.mp H
                          obtain ⟨t277, A280, H⟩ := H
                          replace H : (some t277) = some r := H
                          have A28 := Aside0.mk A280
                          clear A280
                          obtain rfl := Option.some.inj H
                          go_wp2_with (first | (go_at_call 10; (with_reducible refine (sep_Least.calls kj13 js9 js5 t275 t276 _ A26.out).mono ?_); rintro e w29 ⟨rfl, hb⟩; have n0_ := Aside0.mk (blk_below (g := gb271) (o := .cells #[.string a0_0, .string a0_1, .string a0_2] 39 (0, 0)) (by (with_reducible repeat (first | refine blk_drewN ?_ _ | refine blk_drew ?_ | refine blk_alloc ?_ _)); exact BK271.out) hb); have n1_ := Aside0.mk (below_step (by repeat (first | (with_reducible first | exact HB.out | apply below_alloc | apply pw_below_drewN | apply below_drew1 | refine below_set ?_ GE271.out) | exact HB.out)) hb); clear BK271; clear HB; have BK271 := n0_; have HB := n1_; clear n0_ n1_; (try clear hb); (try clear hb2); (try clear hk); (try clear hi)) | (go_at_call 20; (with_reducible refine (withylaw05_fixed.calls kj13  t277 _ A28.out).mono ?_); rintro e w30 ⟨rfl, hb⟩; have n0_ := Aside0.mk (blk_below (g := gb271) (o := .cells #[.string a0_0, .string a0_1, .string a0_2] 39 (0, 0)) (by (with_reducible repeat (first | refine blk_drewN ?_ _ | refine blk_drew ?_ | refine blk_alloc ?_ _)); exact BK271.out) hb); have n1_ := Aside0.mk (below_step (by repeat (first | (with_reducible first | exact HB.out | apply below_alloc | apply pw_below_drewN | apply below_drew1 | refine below_set ?_ GE271.out) | exact HB.out)) hb); clear BK271; clear HB; have BK271 := n0_; have HB := n1_; clear n0_ n1_; (try clear hb); (try clear hb2); (try clear hk); (try clear hi)))
                          repeat (go_quiet (first | (go_at_call 10; (with_reducible refine (sep_Least.calls kj13 js9 js5 t275 t276 _ A26.out).mono ?_); rintro e w29 ⟨rfl, hb⟩; have n0_ := Aside0.mk (blk_below (g := gb271) (o := .cells #[.string a0_0, .string a0_1, .string a0_2] 39 (0, 0)) (by (with_reducible repeat (first | refine blk_drewN ?_ _ | refine blk_drew ?_ | refine blk_alloc ?_ _)); exact BK271.out) hb); have n1_ := Aside0.mk (below_step (by repeat (first | (with_reducible first | exact HB.out | apply below_alloc | apply pw_below_drewN | apply below_drew1 | refine below_set ?_ GE271.out) | exact HB.out)) hb); clear BK271; clear HB; have BK271 := n0_; have HB := n1_; clear n0_ n1_; (try clear hb); (try clear hb2); (try clear hk); (try clear hi)) | (go_at_call 20; (with_reducible refine (withylaw05_fixed.calls kj13  t277 _ A28.out).mono ?_); rintro e w30 ⟨rfl, hb⟩; have n0_ := Aside0.mk (blk_below (g := gb271) (o := .cells #[.string a0_0, .string a0_1, .string a0_2] 39 (0, 0)) (by (with_reducible repeat (first | refine blk_drewN ?_ _ | refine blk_drew ?_ | refine blk_alloc ?_ _)); exact BK271.out) hb); have n1_ := Aside0.mk (below_step (by repeat (first | (with_reducible first | exact HB.out | apply below_alloc | apply pw_below_drewN | apply below_drew1 | refine below_set ?_ GE271.out) | exact HB.out)) hb); clear BK271; clear HB; have BK271 := n0_; have HB := n1_; clear n0_ n1_; (try clear hb); (try clear hb2); (try clear hk); (try clear hi))); try go_wp2_with (first | (go_at_call 10; (with_reducible refine (sep_Least.calls kj13 js9 js5 t275 t276 _ A26.out).mono ?_); rintro e w29 ⟨rfl, hb⟩; have n0_ := Aside0.mk (blk_below (g := gb271) (o := .cells #[.string a0_0, .string a0_1, .string a0_2] 39 (0, 0)) (by (with_reducible repeat (first | refine blk_drewN ?_ _ | refine blk_drew ?_ | refine blk_alloc ?_ _)); exact BK271.out) hb); have n1_ := Aside0.mk (below_step (by repeat (first | (with_reducible first | exact HB.out | apply below_alloc | apply pw_below_drewN | apply below_drew1 | refine below_set ?_ GE271.out) | exact HB.out)) hb); clear BK271; clear HB; have BK271 := n0_; have HB := n1_; clear n0_ n1_; (try clear hb); (try clear hb2); (try clear hk); (try clear hi)) | (go_at_call 20; (with_reducible refine (withylaw05_fixed.calls kj13  t277 _ A28.out).mono ?_); rintro e w30 ⟨rfl, hb⟩; have n0_ := Aside0.mk (blk_below (g := gb271) (o := .cells #[.string a0_0, .string a0_1, .string a0_2] 39 (0, 0)) (by (with_reducible repeat (first | refine blk_drewN ?_ _ | refine blk_drew ?_ | refine blk_alloc ?_ _)); exact BK271.out) hb); have n1_ := Aside0.mk (below_step (by repeat (first | (with_reducible first | exact HB.out | apply below_alloc | apply pw_below_drewN | apply below_drew1 | refine below_set ?_ GE271.out) | exact HB.out)) hb); clear BK271; clear HB; have BK271 := n0_; have HB := n1_; clear n0_ n1_; (try clear hb); (try clear hb2); (try clear hk); (try clear hi))))
                          go_ret
                          exact ⟨by first | rfl | (simp [errW_none, errW_some] <;> rfl) | (simp only [← hji2, ← hjs5, ← hji6, ← hjs9, ← hji10, ← hjs13]; first | rfl | (simp [errW_none, errW_some] <;> rfl)) | (simp [*, errW_none, errW_some] <;> rfl), by repeat (first | (with_reducible first | exact HB.out | apply below_alloc | apply pw_below_drewN | apply below_drew1 | refine below_set ?_ GE271.out) | exact HB.out)⟩
                    · rw [if_neg c19] at H
                      have c19b0 : (Op.bytesLess js5.toList js9.toList) = false := by simpa using c19
                      clear c19
                      by_cases c31 : (Op.bytesLess js9.toList js5.toList) = true
                      · rw [if_pos c31] at H
                        have c31b0 : (Op.bytesLess js9.toList js5.toList) = true := c31
                        clear c31
                        replace H := Option.bind_eq_some_iff.mp H
                        obtain ⟨⟨t278, t279⟩, A320, H⟩ := H
                        replace H : (if t279 = 0 then (none) else ((withylaw05_fixed.f kj13).bind fun t280 => (some t280))) = some r := H
                        have A32 := Aside0.mk A320
                        clear A320
                        by_cases c33 : t279 = 0
                        · rw [if_pos c33] at H
                          exact absurd H (by simp)
                        · rw [if_neg c33] at H
                          have c33b0 : (t279 == 0) = false := beq_eq_false_iff_ne.mpr c33
                          have c33b1 : (t279 != 0) = true := bne_iff_ne.mpr c33
                          replace H := Option.bind_eq_some_iff.mp H
                          obtain ⟨t280, A340, H⟩ := H
                          replace H : (some t280) = some r := H
                          have A34 := Aside0.mk A340
                          clear A340
                          obtain rfl := Option.some.inj H
                          go_wp2_with (first | (go_at_call 10; (with_reducible refine (sep_Least.calls kj13 js5 js9 t278 t279 _ A32.out).mono ?_); rintro e w35 ⟨rfl, hb⟩; have n0_ := Aside0.mk (blk_below (g := gb271) (o := .cells #[.string a0_0, .string a0_1, .string a0_2] 39 (0, 0)) (by (with_reducible repeat (first | refine blk_drewN ?_ _ | refine blk_drew ?_ | refine blk_alloc ?_ _)); exact BK271.out) hb); have n1_ := Aside0.mk (below_step (by repeat (first | (with_reducible first | exact HB.out | apply below_alloc | apply pw_below_drewN | apply below_drew1 | refine below_set ?_ GE271.out) | exact HB.out)) hb); clear BK271; clear HB; have BK271 := n0_; have HB := n1_; clear n0_ n1_; (try clear hb); (try clear hb2); (try clear hk); (try clear hi)) | (go_at_call 20; (with_reducible refine (withylaw05_fixed.calls kj13  t280 _ A34.out).mono ?_); rintro e w36 ⟨rfl, hb⟩; have n0_ := Aside0.mk (blk_below (g := gb271) (o := .cells #[.string a0_0, .string a0_1, .string a0_2] 39 (0, 0)) (by (with_reducible repeat (first | refine blk_drewN ?_ _ | refine blk_drew ?_ | refine blk_alloc ?_ _)); exact BK271.out) hb); have n1_ := Aside0.mk (below_step (by repeat (first | (with_reducible first | exact HB.out | apply below_alloc | apply pw_below_drewN | apply below_drew1 | refine below_set ?_ GE271.out) | exact HB.out)) hb); clear BK271; clear HB; have BK271 := n0_; have HB := n1_; clear n0_ n1_; (try clear hb); (try clear hb2); (try clear hk); (try clear hi)))
                          repeat (go_quiet (first | (go_at_call 10; (with_reducible refine (sep_Least.calls kj13 js5 js9 t278 t279 _ A32.out).mono ?_); rintro e w35 ⟨rfl, hb⟩; have n0_ := Aside0.mk (blk_below (g := gb271) (o := .cells #[.string a0_0, .string a0_1, .string a0_2] 39 (0, 0)) (by (with_reducible repeat (first | refine blk_drewN ?_ _ | refine blk_drew ?_ | refine blk_alloc ?_ _)); exact BK271.out) hb); have n1_ := Aside0.mk (below_step (by repeat (first | (with_reducible first | exact HB.out | apply below_alloc | apply pw_below_drewN | apply below_drew1 | refine below_set ?_ GE271.out) | exact HB.out)) hb); clear BK271; clear HB; have BK271 := n0_; have HB := n1_; clear n0_ n1_; (try clear hb); (try clear hb2); (try clear hk); (try clear hi)) | (go_at_call 20; (with_reducible refine (withylaw05_fixed.calls kj13  t280 _ A34.out).mono ?_); rintro e w36 ⟨rfl, hb⟩; have n0_ := Aside0.mk (blk_below (g := gb271) (o := .cells #[.string a0_0, .string a0_1, .string a0_2] 39 (0, 0)) (by (with_reducible repeat (first | refine blk_drewN ?_ _ | refine blk_drew ?_ | refine blk_alloc ?_ _)); exact BK271.out) hb); have n1_ := Aside0.mk (below_step (by repeat (first | (with_reducible first | exact HB.out | apply below_alloc | apply pw_below_drewN | apply below_drew1 | refine below_set ?_ GE271.out) | exact HB.out)) hb); clear BK271; clear HB; have BK271 := n0_; have HB := n1_; clear n0_ n1_; (try clear hb); (try clear hb2); (try clear hk); (try clear hi))); try go_wp2_with (first | (go_at_call 10; (with_reducible refine (sep_Least.calls kj13 js5 js9 t278 t279 _ A32.out).mono ?_); rintro e w35 ⟨rfl, hb⟩; have n0_ := Aside0.mk (blk_below (g := gb271) (o := .cells #[.string a0_0, .string a0_1, .string a0_2] 39 (0, 0)) (by (with_reducible repeat (first | refine blk_drewN ?_ _ | refine blk_drew ?_ | refine blk_alloc ?_ _)); exact BK271.out) hb); have n1_ := Aside0.mk (below_step (by repeat (first | (with_reducible first | exact HB.out | apply below_alloc | apply pw_below_drewN | apply below_drew1 | refine below_set ?_ GE271.out) | exact HB.out)) hb); clear BK271; clear HB; have BK271 := n0_; have HB := n1_; clear n0_ n1_; (try clear hb); (try clear hb2); (try clear hk); (try clear hi)) | (go_at_call 20; (with_reducible refine (withylaw05_fixed.calls kj13  t280 _ A34.out).mono ?_); rintro e w36 ⟨rfl, hb⟩; have n0_ := Aside0.mk (blk_below (g := gb271) (o := .cells #[.string a0_0, .string a0_1, .string a0_2] 39 (0, 0)) (by (with_reducible repeat (first | refine blk_drewN ?_ _ | refine blk_drew ?_ | refine blk_alloc ?_ _)); exact BK271.out) hb); have n1_ := Aside0.mk (below_step (by repeat (first | (with_reducible first | exact HB.out | apply below_alloc | apply pw_below_drewN | apply below_drew1 | refine below_set ?_ GE271.out) | exact HB.out)) hb); clear BK271; clear HB; have BK271 := n0_; have HB := n1_; clear n0_ n1_; (try clear hb); (try clear hb2); (try clear hk); (try clear hi))))
                          go_ret
                          exact ⟨by first | rfl | (simp [errW_none, errW_some] <;> rfl) | (simp only [← hji2, ← hjs5, ← hji6, ← hjs9, ← hji10, ← hjs13]; first | rfl | (simp [errW_none, errW_some] <;> rfl)) | (simp [*, errW_none, errW_some] <;> rfl), by repeat (first | (with_reducible first | exact HB.out | apply below_alloc | apply pw_below_drewN | apply below_drew1 | refine below_set ?_ GE271.out) | exact HB.out)⟩
                      · rw [if_neg c31] at H
                        have c31b0 : (Op.bytesLess js9.toList js5.toList) = false := by simpa using c31
                        clear c31
                        replace H := Option.bind_eq_some_iff.mp H
                        obtain ⟨⟨t281, t282⟩, A370, H⟩ := H
                        replace H : (if t282 = 0 then (none) else ((withylaw05_fixed.f kj13).bind fun t283 => (some t283))) = some r := H
                        have A37 := Aside0.mk A370
                        clear A370
                        by_cases c38 : t282 = 0
                        · rw [if_pos c38] at H
                          exact absurd H (by simp)
                        · rw [if_neg c38] at H
                          have c38b0 : (t282 == 0) = false := beq_eq_false_iff_ne.mpr c38
                          have c38b1 : (t282 != 0) = true := bne_iff_ne.mpr c38
                          replace H := Option.bind_eq_some_iff.mp H
                          obtain ⟨t283, A390, H⟩ := H
                          replace H : (some t283) = some r := H
                          have A39 := Aside0.mk A390
                          clear A390
                          obtain rfl := Option.some.inj H
                          go_wp2_with (first | (go_at_call 10; (with_reducible refine (sep_Least.calls kj13 js5 js5 t281 t282 _ A37.out).mono ?_); rintro e w40 ⟨rfl, hb⟩; have n0_ := Aside0.mk (blk_below (g := gb271) (o := .cells #[.string a0_0, .string a0_1, .string a0_2] 39 (0, 0)) (by (with_reducible repeat (first | refine blk_drewN ?_ _ | refine blk_drew ?_ | refine blk_alloc ?_ _)); exact BK271.out) hb); have n1_ := Aside0.mk (below_step (by repeat (first | (with_reducible first | exact HB.out | apply below_alloc | apply pw_below_drewN | apply below_drew1 | refine below_set ?_ GE271.out) | exact HB.out)) hb); clear BK271; clear HB; have BK271 := n0_; have HB := n1_; clear n0_ n1_; (try clear hb); (try clear hb2); (try clear hk); (try clear hi)) | (go_at_call 20; (with_reducible refine (withylaw05_fixed.calls kj13  t283 _ A39.out).mono ?_); rintro e w41 ⟨rfl, hb⟩; have n0_ := Aside0.mk (blk_below (g := gb271) (o := .cells #[.string a0_0, .string a0_1, .string a0_2] 39 (0, 0)) (by (with_reducible repeat (first | refine blk_drewN ?_ _ | refine blk_drew ?_ | refine blk_alloc ?_ _)); exact BK271.out) hb); have n1_ := Aside0.mk (below_step (by repeat (first | (with_reducible first | exact HB.out | apply below_alloc | apply pw_below_drewN | apply below_drew1 | refine below_set ?_ GE271.out) | exact HB.out)) hb); clear BK271; clear HB; have BK271 := n0_; have HB := n1_; clear n0_ n1_; (try clear hb); (try clear hb2); (try clear hk); (try clear hi)))
                          repeat (go_quiet (first | (go_at_call 10; (with_reducible refine (sep_Least.calls kj13 js5 js5 t281 t282 _ A37.out).mono ?_); rintro e w40 ⟨rfl, hb⟩; have n0_ := Aside0.mk (blk_below (g := gb271) (o := .cells #[.string a0_0, .string a0_1, .string a0_2] 39 (0, 0)) (by (with_reducible repeat (first | refine blk_drewN ?_ _ | refine blk_drew ?_ | refine blk_alloc ?_ _)); exact BK271.out) hb); have n1_ := Aside0.mk (below_step (by repeat (first | (with_reducible first | exact HB.out | apply below_alloc | apply pw_below_drewN | apply below_drew1 | refine below_set ?_ GE271.out) | exact HB.out)) hb); clear BK271; clear HB; have BK271 := n0_; have HB := n1_; clear n0_ n1_; (try clear hb); (try clear hb2); (try clear hk); (try clear hi)) | (go_at_call 20; (with_reducible refine (withylaw05_fixed.calls kj13  t283 _ A39.out).mono ?_); rintro e w41 ⟨rfl, hb⟩; have n0_ := Aside0.mk (blk_below (g := gb271) (o := .cells #[.string a0_0, .string a0_1, .string a0_2] 39 (0, 0)) (by (with_reducible repeat (first | refine blk_drewN ?_ _ | refine blk_drew ?_ | refine blk_alloc ?_ _)); exact BK271.out) hb); have n1_ := Aside0.mk (below_step (by repeat (first | (with_reducible first | exact HB.out | apply below_alloc | apply pw_below_drewN | apply below_drew1 | refine below_set ?_ GE271.out) | exact HB.out)) hb); clear BK271; clear HB; have BK271 := n0_; have HB := n1_; clear n0_ n1_; (try clear hb); (try clear hb2); (try clear hk); (try clear hi))); try go_wp2_with (first | (go_at_call 10; (with_reducible refine (sep_Least.calls kj13 js5 js5 t281 t282 _ A37.out).mono ?_); rintro e w40 ⟨rfl, hb⟩; have n0_ := Aside0.mk (blk_below (g := gb271) (o := .cells #[.string a0_0, .string a0_1, .string a0_2] 39 (0, 0)) (by (with_reducible repeat (first | refine blk_drewN ?_ _ | refine blk_drew ?_ | refine blk_alloc ?_ _)); exact BK271.out) hb); have n1_ := Aside0.mk (below_step (by repeat (first | (with_reducible first | exact HB.out | apply below_alloc | apply pw_below_drewN | apply below_drew1 | refine below_set ?_ GE271.out) | exact HB.out)) hb); clear BK271; clear HB; have BK271 := n0_; have HB := n1_; clear n0_ n1_; (try clear hb); (try clear hb2); (try clear hk); (try clear hi)) | (go_at_call 20; (with_reducible refine (withylaw05_fixed.calls kj13  t283 _ A39.out).mono ?_); rintro e w41 ⟨rfl, hb⟩; have n0_ := Aside0.mk (blk_below (g := gb271) (o := .cells #[.string a0_0, .string a0_1, .string a0_2] 39 (0, 0)) (by (with_reducible repeat (first | refine blk_drewN ?_ _ | refine blk_drew ?_ | refine blk_alloc ?_ _)); exact BK271.out) hb); have n1_ := Aside0.mk (below_step (by repeat (first | (with_reducible first | exact HB.out | apply below_alloc | apply pw_below_drewN | apply below_drew1 | refine below_set ?_ GE271.out) | exact HB.out)) hb); clear BK271; clear HB; have BK271 := n0_; have HB := n1_; clear n0_ n1_; (try clear hb); (try clear hb2); (try clear hk); (try clear hi))))
                          go_ret
                          exact ⟨by first | rfl | (simp [errW_none, errW_some] <;> rfl) | (simp only [← hji2, ← hjs5, ← hji6, ← hjs9, ← hji10, ← hjs13]; first | rfl | (simp [errW_none, errW_some] <;> rfl)) | (simp [*, errW_none, errW_some] <;> rfl), by repeat (first | (with_reducible first | exact HB.out | apply below_alloc | apply pw_below_drewN | apply below_drew1 | refine below_set ?_ GE271.out) | exact HB.out)⟩
                  · replace c18 := Bool.eq_false_iff.mpr c18
                    subst c18
                    have H1 : ((sep_Least.f kj13 js5 js9).bind fun bt284 => ((sep_Least.f kj13 js9 js13).bind fun bt286 => ((sep_Least.f kj13 js5 js13).bind fun bt288 => ((sep_Common.f kj13 js5 js9).bind fun t290 => ((sep_Common.f kj13 js9 js13).bind fun t291 => (if bt284.2 = 0 then (if bt286.2 = 0 then (if bt288.2 = 0 then ((sep_Common.f kj13 js5 js13).bind fun t292 => (if t292 = (mn t290 t291) then (if (bt288.1.size : Int) = (wrap64 ((mn t290 t291) + 1)) then (if (bt288.1.size : Int) ≤ (mn (bt284.1.size : Int) (bt286.1.size : Int)) then (if 0 ≤ (wrap64 ((mn t290 t291) + 1)) then (if (wrap64 ((mn t290 t291) + 1)) ≤ (js13.size : Int) then ((withyref01_Words.f kj13 (([bt288.1] : List ByteArray)) (([js13.extract 0 ((wrap64 ((mn t290 t291) + 1)) : Int).toNat] : List ByteArray))).bind fun t299 => (if t299 = true then ((withylaw05_fixed.f kj13).bind fun t300 => (some t300)) else (none))) else (none)) else (none)) else (none)) else (none)) else (none))) else (none)) else (none)) else (none))))))) = some r := by rw [if_neg (show ¬ (false = true) by decide)] at H; exact H
                    clear H
                    have H := H1
                    clear H1
                    replace H := Option.bind_eq_some_iff.mp H
                    obtain ⟨⟨t284, t285⟩, A420, H⟩ := H
                    replace H : ((sep_Least.f kj13 js9 js13).bind fun bt286 => ((sep_Least.f kj13 js5 js13).bind fun bt288 => ((sep_Common.f kj13 js5 js9).bind fun t290 => ((sep_Common.f kj13 js9 js13).bind fun t291 => (if t285 = 0 then (if bt286.2 = 0 then (if bt288.2 = 0 then ((sep_Common.f kj13 js5 js13).bind fun t292 => (if t292 = (mn t290 t291) then (if (bt288.1.size : Int) = (wrap64 ((mn t290 t291) + 1)) then (if (bt288.1.size : Int) ≤ (mn (t284.size : Int) (bt286.1.size : Int)) then (if 0 ≤ (wrap64 ((mn t290 t291) + 1)) then (if (wrap64 ((mn t290 t291) + 1)) ≤ (js13.size : Int) then ((withyref01_Words.f kj13 (([bt288.1] : List ByteArray)) (([js13.extract 0 ((wrap64 ((mn t290 t291) + 1)) : Int).toNat] : List ByteArray))).bind fun t299 => (if t299 = true then ((withylaw05_fixed.f kj13).bind fun t300 => (some t300)) else (none))) else (none)) else (none)) else (none)) else (none)) else (none))) else (none)) else (none)) else (none)))))) = some r := H
                    have A42 := Aside0.mk A420
                    clear A420
                    replace H := Option.bind_eq_some_iff.mp H
                    obtain ⟨⟨t286, t287⟩, A430, H⟩ := H
                    replace H : ((sep_Least.f kj13 js5 js13).bind fun bt288 => ((sep_Common.f kj13 js5 js9).bind fun t290 => ((sep_Common.f kj13 js9 js13).bind fun t291 => (if t285 = 0 then (if t287 = 0 then (if bt288.2 = 0 then ((sep_Common.f kj13 js5 js13).bind fun t292 => (if t292 = (mn t290 t291) then (if (bt288.1.size : Int) = (wrap64 ((mn t290 t291) + 1)) then (if (bt288.1.size : Int) ≤ (mn (t284.size : Int) (t286.size : Int)) then (if 0 ≤ (wrap64 ((mn t290 t291) + 1)) then (if (wrap64 ((mn t290 t291) + 1)) ≤ (js13.size : Int) then ((withyref01_Words.f kj13 (([bt288.1] : List ByteArray)) (([js13.extract 0 ((wrap64 ((mn t290 t291) + 1)) : Int).toNat] : List ByteArray))).bind fun t299 => (if t299 = true then ((withylaw05_fixed.f kj13).bind fun t300 => (some t300)) else (none))) else (none)) else (none)) else (none)) else (none)) else (none))) else (none)) else (none)) else (none))))) = some r := H
                    have A43 := Aside0.mk A430
                    clear A430
                    replace H := Option.bind_eq_some_iff.mp H
                    obtain ⟨⟨t288, t289⟩, A440, H⟩ := H
                    replace H : ((sep_Common.f kj13 js5 js9).bind fun t290 => ((sep_Common.f kj13 js9 js13).bind fun t291 => (if t285 = 0 then (if t287 = 0 then (if t289 = 0 then ((sep_Common.f kj13 js5 js13).bind fun t292 => (if t292 = (mn t290 t291) then (if (t288.size : Int) = (wrap64 ((mn t290 t291) + 1)) then (if (t288.size : Int) ≤ (mn (t284.size : Int) (t286.size : Int)) then (if 0 ≤ (wrap64 ((mn t290 t291) + 1)) then (if (wrap64 ((mn t290 t291) + 1)) ≤ (js13.size : Int) then ((withyref01_Words.f kj13 (([t288] : List ByteArray)) (([js13.extract 0 ((wrap64 ((mn t290 t291) + 1)) : Int).toNat] : List ByteArray))).bind fun t299 => (if t299 = true then ((withylaw05_fixed.f kj13).bind fun t300 => (some t300)) else (none))) else (none)) else (none)) else (none)) else (none)) else (none))) else (none)) else (none)) else (none)))) = some r := H
                    have A44 := Aside0.mk A440
                    clear A440
                    replace H := Option.bind_eq_some_iff.mp H
                    obtain ⟨t290, A450, H⟩ := H
                    replace H : ((sep_Common.f kj13 js9 js13).bind fun t291 => (if t285 = 0 then (if t287 = 0 then (if t289 = 0 then ((sep_Common.f kj13 js5 js13).bind fun t292 => (if t292 = (mn t290 t291) then (if (t288.size : Int) = (wrap64 ((mn t290 t291) + 1)) then (if (t288.size : Int) ≤ (mn (t284.size : Int) (t286.size : Int)) then (if 0 ≤ (wrap64 ((mn t290 t291) + 1)) then (if (wrap64 ((mn t290 t291) + 1)) ≤ (js13.size : Int) then ((withyref01_Words.f kj13 (([t288] : List ByteArray)) (([js13.extract 0 ((wrap64 ((mn t290 t291) + 1)) : Int).toNat] : List ByteArray))).bind fun t299 => (if t299 = true then ((withylaw05_fixed.f kj13).bind fun t300 => (some t300)) else (none))) else (none)) else (none)) else (none)) else (none)) else (none))) else (none)) else (none)) else (none))) = some r := H
                    have A45 := Aside0.mk A450
                    clear A450
                    replace H := Option.bind_eq_some_iff.mp H
                    obtain ⟨t291, A460, H⟩ := H
                    replace H : (if t285 = 0 then (if t287 = 0 then (if t289 = 0 then ((sep_Common.f kj13 js5 js13).bind fun t292 => (if t292 = (mn t290 t291) then (if (t288.size : Int) = (wrap64 ((mn t290 t291) + 1)) then (if (t288.size : Int) ≤ (mn (t284.size : Int) (t286.size : Int)) then (if 0 ≤ (wrap64 ((mn t290 t291) + 1)) then (if (wrap64 ((mn t290 t291) + 1)) ≤ (js13.size : Int) then ((withyref01_Words.f kj13 (([t288] : List ByteArray)) (([js13.extract 0 ((wrap64 ((mn t290 t291) + 1)) : Int).toNat] : List ByteArray))).bind fun t299 => (if t299 = true then ((withylaw05_fixed.f kj13).bind fun t300 => (some t300)) else (none))) else (none)) else (none)) else (none)) else (none)) else (none))) else (none)) else (none)) else (none)) = some r := H
                    have A46 := Aside0.mk A460
                    clear A460
                    obtain ⟨ji47, hji47⟩ : ∃ j_ : Int, (mn t290 t291) = j_ := ⟨_, rfl⟩
                    replace H : (if t285 = 0 then (if t287 = 0 then (if t289 = 0 then ((sep_Common.f kj13 js5 js13).bind fun t292 => (if t292 = (ji47) then (if (t288.size : Int) = (wrap64 ((ji47) + 1)) then (if (t288.size : Int) ≤ (mn (t284.size : Int) (t286.size : Int)) then (if 0 ≤ (wrap64 ((ji47) + 1)) then (if (wrap64 ((ji47) + 1)) ≤ (js13.size : Int) then ((withyref01_Words.f kj13 (([t288] : List ByteArray)) (([js13.extract 0 ((wrap64 ((ji47) + 1)) : Int).toNat] : List ByteArray))).bind fun t299 => (if t299 = true then ((withylaw05_fixed.f kj13).bind fun t300 => (some t300)) else (none))) else (none)) else (none)) else (none)) else (none)) else (none))) else (none)) else (none)) else (none)) = some r := by first | (rw [hji47] at H; exact H) | (simp only [hji47] at H ⊢; exact H)
                    (try rw [hji47] at A42)
                    (try rw [hji47] at A43)
                    (try rw [hji47] at A44)
                    (try rw [hji47] at A45)
                    (try rw [hji47] at A46)
                    have hji47_ : (if t291 < t290 then t291 else t290) = ji47 := hji47
                    by_cases c48 : t285 = 0
                    · rw [if_pos c48] at H
                      have c48b0 : (t285 == 0) = true := beq_iff_eq.mpr c48
                      have c48b1 : (t285 != 0) = false := bne_eq_false_iff_eq.mpr c48
                      clear c48
                      by_cases c49 : t287 = 0
                      · rw [if_pos c49] at H
                        have c49b0 : (t287 == 0) = true := beq_iff_eq.mpr c49
                        have c49b1 : (t287 != 0) = false := bne_eq_false_iff_eq.mpr c49
                        clear c49
                        by_cases c50 : t289 = 0
                        · rw [if_pos c50] at H
                          have c50b0 : (t289 == 0) = true := beq_iff_eq.mpr c50
                          have c50b1 : (t289 != 0) = false := bne_eq_false_iff_eq.mpr c50
                          clear c50
                          replace H := Option.bind_eq_some_iff.mp H
                          obtain ⟨t292, A510, H⟩ := H
                          replace H : (if t292 = (ji47) then (if (t288.size : Int) = (wrap64 ((ji47) + 1)) then (if (t288.size : Int) ≤ (mn (t284.size : Int) (t286.size : Int)) then (if 0 ≤ (wrap64 ((ji47) + 1)) then (if (wrap64 ((ji47) + 1)) ≤ (js13.size : Int) then ((withyref01_Words.f kj13 (([t288] : List ByteArray)) (([js13.extract 0 ((wrap64 ((ji47) + 1)) : Int).toNat] : List ByteArray))).bind fun t299 => (if t299 = true then ((withylaw05_fixed.f kj13).bind fun t300 => (some t300)) else (none))) else (none)) else (none)) else (none)) else (none)) else (none)) = some r := H
                          have A51 := Aside0.mk A510
                          clear A510
                          by_cases c52 : t292 = (ji47)
                          · rw [if_pos c52] at H
                            have c52b0 : (t292 == (ji47)) = true := beq_iff_eq.mpr c52
                            have c52b1 : (t292 != (ji47)) = false := bne_eq_false_iff_eq.mpr c52
                            clear c52
                            by_cases c53 : (t288.size : Int) = (wrap64 ((ji47) + 1))
                            · rw [if_pos c53] at H
                              have c53b0 : ((t288.size : Int) == (wrap64 ((ji47) + 1))) = true := beq_iff_eq.mpr c53
                              have c53b1 : ((t288.size : Int) != (wrap64 ((ji47) + 1))) = false := bne_eq_false_iff_eq.mpr c53
                              clear c53
                              obtain ⟨ji54, hji54⟩ : ∃ j_ : Int, (mn (t284.size : Int) (t286.size : Int)) = j_ := ⟨_, rfl⟩
                              replace H : (if (t288.size : Int) ≤ (ji54) then (if 0 ≤ (wrap64 ((ji47) + 1)) then (if (wrap64 ((ji47) + 1)) ≤ (js13.size : Int) then ((withyref01_Words.f kj13 (([t288] : List ByteArray)) (([js13.extract 0 ((wrap64 ((ji47) + 1)) : Int).toNat] : List ByteArray))).bind fun t299 => (if t299 = true then ((withylaw05_fixed.f kj13).bind fun t300 => (some t300)) else (none))) else (none)) else (none)) else (none)) = some r := by first | (rw [hji54] at H; exact H) | (simp only [hji54] at H ⊢; exact H)
                              (try rw [hji54] at A42)
                              (try rw [hji54] at A43)
                              (try rw [hji54] at A44)
                              (try rw [hji54] at A45)
                              (try rw [hji54] at A46)
                              (try rw [hji54] at A51)
                              (try (have hji54l : 0 ≤ ji54 := by (rw [← hji54]; unfold mn; (repeat' split) <;> omega)))
                              (try (have hji54m : 0 ≤ ji54 := by omega))
                              have hji54_ : (if (t286.size : Int) < (t284.size : Int) then (t286.size : Int) else (t284.size : Int)) = ji54 := hji54
                              (try (have hji54n : (if t286.size < t284.size then (t286.size : Int) else (t284.size : Int)) = ji54 := by simpa only [Int.ofNat_lt] using hji54_))
                              by_cases c55 : (t288.size : Int) ≤ (ji54)
                              · rw [if_pos c55] at H
                                have c55b0 : decide ((t288.size : Int) ≤ (ji54)) = true := decide_eq_true c55
                                clear c55
                                obtain ⟨y293, hy293⟩ : ∃ y_ : List ByteArray, y_ = (([t288] : List ByteArray)) := ⟨_, rfl⟩
                                replace H : (if 0 ≤ (wrap64 ((ji47) + 1)) then (if (wrap64 ((ji47) + 1)) ≤ (js13.size : Int) then ((withyref01_Words.f kj13 y293 (([js13.extract 0 ((wrap64 ((ji47) + 1)) : Int).toNat] : List ByteArray))).bind fun t299 => (if t299 = true then ((withylaw05_fixed.f kj13).bind fun t300 => (some t300)) else (none))) else (none)) else (none)) = some r := by first | (rw [hy293]; with_reducible exact H) | (have H2_ := (Option.bind_some _ _).symm.trans H; rw [hy293]; with_reducible exact H2_) | (have H2_ := (Option.bind_some _ _).symm.trans H; with_reducible exact H2_) | with_reducible exact H | (rw [hy293]; exact H) | exact H
                                have Ny293 := Aside0.mk hy293
                                clear hy293
                                obtain ⟨ji56, hji56⟩ : ∃ j_ : Int, (wrap64 ((ji47) + 1)) = j_ := ⟨_, rfl⟩
                                replace H : (if 0 ≤ (ji56) then (if (ji56) ≤ (js13.size : Int) then ((withyref01_Words.f kj13 y293 (([js13.extract 0 ((ji56) : Int).toNat] : List ByteArray))).bind fun t299 => (if t299 = true then ((withylaw05_fixed.f kj13).bind fun t300 => (some t300)) else (none))) else (none)) else (none)) = some r := by first | (rw [hji56] at H; exact H) | (simp only [hji56] at H ⊢; exact H)
                                (try rw [hji56] at c53b0)
                                (try rw [hji56] at c53b1)
                                (try rw [hji56] at A42)
                                (try rw [hji56] at A43)
                                (try rw [hji56] at A44)
                                (try rw [hji56] at A45)
                                (try rw [hji56] at A46)
                                (try rw [hji56] at A51)
                                have hji56w : (IntKind.i64.wrap ((ji47) + 1)) = ji56 := (i64_w _).trans hji56
                                by_cases c57 : 0 ≤ (ji56)
                                · rw [if_pos c57] at H
                                  have c57b0 := eq_true c57
                                  have c57b1 : decide (0 ≤ (ji56)) = true := decide_eq_true c57
                                  clear c57
                                  by_cases c58 : (ji56) ≤ (js13.size : Int)
                                  · rw [if_pos c58] at H
                                    have c58b0 := eq_true c58
                                    have c58b1 : decide ((ji56) ≤ (js13.size : Int)) = true := decide_eq_true c58
                                    clear c58
                                    obtain ⟨js59, hjs59⟩ : ∃ j_ : ByteArray, (js13.extract 0 ((ji56) : Int).toNat) = j_ := ⟨_, rfl⟩
                                    replace H : ((withyref01_Words.f kj13 y293 (([js59] : List ByteArray))).bind fun t299 => (if t299 = true then ((withylaw05_fixed.f kj13).bind fun t300 => (some t300)) else (none))) = some r := by first | (rw [hjs59] at H; exact H) | (simp only [hjs59] at H ⊢; exact H)
                                    (try rw [hjs59] at A42)
                                    (try rw [hjs59] at A43)
                                    (try rw [hjs59] at A44)
                                    (try rw [hjs59] at A45)
                                    (try rw [hjs59] at A46)
                                    (try rw [hjs59] at A51)
                                    obtain ⟨y296, hy296⟩ : ∃ y_ : List ByteArray, y_ = (([js59] : List ByteArray)) := ⟨_, rfl⟩
                                    replace H : ((withyref01_Words.f kj13 y293 y296).bind fun t299 => (if t299 = true then ((withylaw05_fixed.f kj13).bind fun t300 => (some t300)) else (none))) = some r := by first | (rw [hy296]; with_reducible exact H) | (have H2_ := (Option.bind_some _ _).symm.trans H; rw [hy296]; with_reducible exact H2_) | (have H2_ := (Option.bind_some _ _).symm.trans H; with_reducible exact H2_) | with_reducible exact H | (rw [hy296]; exact H) | exact H
                                    have Ny296 := Aside0.mk hy296
                                    clear hy296
                                    replace H := Option.bind_eq_some_iff.mp H
                                    obtain ⟨t299, A600, H⟩ := H
                                    replace H : (if t299 = true then ((withylaw05_fixed.f kj13).bind fun t300 => (some t300)) else (none)) = some r := H
                                    have A60 := Aside0.mk A600
                                    clear A600
                                    by_cases c61 : t299 = true
                                    · subst c61
                                      have H1 : ((withylaw05_fixed.f kj13).bind fun t300 => (some t300)) = some r := by rw [if_pos rfl] at H; exact H
                                      clear H
                                      have H := H1
                                      clear H1
                                      replace H := Option.bind_eq_some_iff.mp H
                                      obtain ⟨t300, A620, H⟩ := H
                                      replace H : (some t300) = some r := H
                                      have A62 := Aside0.mk A620
                                      clear A620
                                      obtain rfl := Option.some.inj H
                                      go_wp2_with (first | (go_at_call 10; (with_reducible refine (sep_Least.calls kj13 js5 js9 t284 t285 _ A42.out).mono ?_); rintro e w63 ⟨rfl, hb⟩; have n0_ := Aside0.mk (blk_below (g := gb271) (o := .cells #[.string a0_0, .string a0_1, .string a0_2] 39 (0, 0)) (by (with_reducible repeat (first | refine blk_drewN ?_ _ | refine blk_drew ?_ | refine blk_alloc ?_ _)); exact BK271.out) hb); have n1_ := Aside0.mk (below_step (by repeat (first | (with_reducible first | exact HB.out | apply below_alloc | apply pw_below_drewN | apply below_drew1 | refine below_set ?_ GE271.out) | exact HB.out)) hb); clear BK271; clear HB; have BK271 := n0_; have HB := n1_; clear n0_ n1_; (try clear hb); (try clear hb2); (try clear hk); (try clear hi)) | (go_at_call 10; (with_reducible refine (sep_Least.calls kj13 js9 js13 t286 t287 _ A43.out).mono ?_); rintro e w64 ⟨rfl, hb⟩; have n0_ := Aside0.mk (blk_below (g := gb271) (o := .cells #[.string a0_0, .string a0_1, .string a0_2] 39 (0, 0)) (by (with_reducible repeat (first | refine blk_drewN ?_ _ | refine blk_drew ?_ | refine blk_alloc ?_ _)); exact BK271.out) hb); have n1_ := Aside0.mk (below_step (by repeat (first | (with_reducible first | exact HB.out | apply below_alloc | apply pw_below_drewN | apply below_drew1 | refine below_set ?_ GE271.out) | exact HB.out)) hb); clear BK271; clear HB; have BK271 := n0_; have HB := n1_; clear n0_ n1_; (try clear hb); (try clear hb2); (try clear hk); (try clear hi)) | (go_at_call 10; (with_reducible refine (sep_Least.calls kj13 js5 js13 t288 t289 _ A44.out).mono ?_); rintro e w65 ⟨rfl, hb⟩; have n0_ := Aside0.mk (blk_below (g := gb271) (o := .cells #[.string a0_0, .string a0_1, .string a0_2] 39 (0, 0)) (by (with_reducible repeat (first | refine blk_drewN ?_ _ | refine blk_drew ?_ | refine blk_alloc ?_ _)); exact BK271.out) hb); have n1_ := Aside0.mk (below_step (by repeat (first | (with_reducible first | exact HB.out | apply below_alloc | apply pw_below_drewN | apply below_drew1 | refine below_set ?_ GE271.out) | exact HB.out)) hb); clear BK271; clear HB; have BK271 := n0_; have HB := n1_; clear n0_ n1_; (try clear hb); (try clear hb2); (try clear hk); (try clear hi)) | (go_at_call 14; (with_reducible refine (sep_Common.calls kj13 js5 js9 t290 _ A45.out).mono ?_); rintro e w66 ⟨rfl, hb⟩; have n0_ := Aside0.mk (blk_below (g := gb271) (o := .cells #[.string a0_0, .string a0_1, .string a0_2] 39 (0, 0)) (by (with_reducible repeat (first | refine blk_drewN ?_ _ | refine blk_drew ?_ | refine blk_alloc ?_ _)); exact BK271.out) hb); have n1_ := Aside0.mk (below_step (by repeat (first | (with_reducible first | exact HB.out | apply below_alloc | apply pw_below_drewN | apply below_drew1 | refine below_set ?_ GE271.out) | exact HB.out)) hb); clear BK271; clear HB; have BK271 := n0_; have HB := n1_; clear n0_ n1_; (try clear hb); (try clear hb2); (try clear hk); (try clear hi)) | (go_at_call 14; (with_reducible refine (sep_Common.calls kj13 js9 js13 t291 _ A46.out).mono ?_); rintro e w67 ⟨rfl, hb⟩; have n0_ := Aside0.mk (blk_below (g := gb271) (o := .cells #[.string a0_0, .string a0_1, .string a0_2] 39 (0, 0)) (by (with_reducible repeat (first | refine blk_drewN ?_ _ | refine blk_drew ?_ | refine blk_alloc ?_ _)); exact BK271.out) hb); have n1_ := Aside0.mk (below_step (by repeat (first | (with_reducible first | exact HB.out | apply below_alloc | apply pw_below_drewN | apply below_drew1 | refine below_set ?_ GE271.out) | exact HB.out)) hb); clear BK271; clear HB; have BK271 := n0_; have HB := n1_; clear n0_ n1_; (try clear hb); (try clear hb2); (try clear hk); (try clear hi)) | (go_at_call 14; (with_reducible refine (sep_Common.calls kj13 js5 js13 t292 _ A51.out).mono ?_); rintro e w68 ⟨rfl, hb⟩; have n0_ := Aside0.mk (blk_below (g := gb271) (o := .cells #[.string a0_0, .string a0_1, .string a0_2] 39 (0, 0)) (by (with_reducible repeat (first | refine blk_drewN ?_ _ | refine blk_drew ?_ | refine blk_alloc ?_ _)); exact BK271.out) hb); have n1_ := Aside0.mk (below_step (by repeat (first | (with_reducible first | exact HB.out | apply below_alloc | apply pw_below_drewN | apply below_drew1 | refine below_set ?_ GE271.out) | exact HB.out)) hb); clear BK271; clear HB; have BK271 := n0_; have HB := n1_; clear n0_ n1_; (try clear hb); (try clear hb2); (try clear hk); (try clear hi)) | ((with_reducible refine gate_dst (N := 120) rfl ?_); (try (refine gate_guard (by rfl) ?_; dsimp only)); refine Kd.R_lit Kd.string _ 9 ?hg (N := 120) ?hd (xs := ([t288] : List ByteArray)) (inner := [.string t288]) (ok := fun _ => True) (okp := fun _ => True) ?hr ?hp (fun _ hk => hk) trivial (Below.refl _ _) (Nat.le_refl _) (by simp) ?_; (case hd => rfl); (case hg => rfl); (case hr => first | (go_simp; done) | (go_simp; rfl)); (case hp => exact (Reps.one (show Kd.M Kd.string _ _ _ t288 [.string t288] from rfl) (Reps.none _ _))); intro v294 w69 ho70 hb hg_ hnew_; clear hg_ hnew_; (first | rw [← Ny293.out] at ho70 | (simp only [Int.reduceToNat] at ho70; rw [← Ny293.out] at ho70)); have n0_ := Aside0.mk (Kd.R_lower ho70 (below_size (by repeat (first | (with_reducible first | exact HB.out | apply below_alloc | apply pw_below_drewN | apply below_drew1 | refine below_set ?_ GE271.out) | exact HB.out)))); have n1_ := Aside0.mk (blk_below (g := gb271) (o := .cells #[.string a0_0, .string a0_1, .string a0_2] 39 (0, 0)) (by (with_reducible repeat (first | refine blk_drewN ?_ _ | refine blk_drew ?_ | refine blk_alloc ?_ _)); exact BK271.out) hb); have n2_ := Aside0.mk (below_step (by repeat (first | (with_reducible first | exact HB.out | apply below_alloc | apply pw_below_drewN | apply below_drew1 | refine below_set ?_ GE271.out) | exact HB.out)) hb); clear BK271; clear HB; have HO295 := n0_; have BK271 := n1_; have HB := n2_; clear n0_ n1_ n2_; clear hb ho70) | ((with_reducible refine gate_dst (N := 125) rfl ?_); (try (refine gate_guard (by rfl) ?_; dsimp only)); refine Kd.R_lit Kd.string _ 9 ?hg (N := 125) ?hd (xs := ([js59] : List ByteArray)) (inner := [.string js59]) (ok := fun _ => True) (okp := fun _ => True) ?hr ?hp (fun _ hk => hk) trivial (Below.refl _ _) (Nat.le_refl _) (by simp) ?_; (case hd => rfl); (case hg => rfl); (case hr => first | (go_simp; done) | (go_simp; rfl)); (case hp => exact (Reps.one (show Kd.M Kd.string _ _ _ js59 [.string js59] from rfl) (Reps.none _ _))); intro v297 w71 ho72 hb hg_ hnew_; clear hg_ hnew_; (first | rw [← Ny296.out] at ho72 | (simp only [Int.reduceToNat] at ho72; rw [← Ny296.out] at ho72)); have n0_ := Aside0.mk (Kd.R_elder' (by (with_reducible repeat (first | apply Kd.R_alloc | apply Kd.R_drewN | apply Kd.R_drew)); exact HO295.out) (Kd.R_base ho72) hb); have n1_ := Aside0.mk (Kd.R_lower (Kd.R_new' ho72 (Kd.R_lt (by (with_reducible repeat (first | apply Kd.R_alloc | apply Kd.R_drewN | apply Kd.R_drew)); exact HO295.out))) (below_size (by repeat (first | (with_reducible first | exact HB.out | apply below_alloc | apply pw_below_drewN | apply below_drew1 | refine below_set ?_ GE271.out) | exact HB.out)))); have n2_ := Aside0.mk (blk_below (g := gb271) (o := .cells #[.string a0_0, .string a0_1, .string a0_2] 39 (0, 0)) (by (with_reducible repeat (first | refine blk_drewN ?_ _ | refine blk_drew ?_ | refine blk_alloc ?_ _)); exact BK271.out) hb); have n3_ := Aside0.mk (below_step (by repeat (first | (with_reducible first | exact HB.out | apply below_alloc | apply pw_below_drewN | apply below_drew1 | refine below_set ?_ GE271.out) | exact HB.out)) hb); clear HO295; clear BK271; clear HB; have HO295 := n0_; have HO298 := n1_; have BK271 := n2_; have HB := n3_; clear n0_ n1_ n2_ n3_; clear hb ho72; obtain ⟨Ao73, co73, eo73⟩ := Kd.R_slice HO295.out; subst eo73; obtain ⟨Ao74, co74, eo74⟩ := Kd.R_slice HO298.out; subst eo74) | (go_at_call 18; (with_reducible refine (withyref01_Words.calls kj13 _ _ y293 _ _ y296 true _ ?side1 ?side2 ?side3 ?side4 A60.out).mono ?_); (case side1 => repeat (first | exact (Kd.R_reads' HO295.out).2.2 | (with_reducible refine Kd.C_alloc ?_ _) | (with_reducible refine Kd.C_drewN ?_ _) | (with_reducible refine Kd.C_drew ?_))); (case side2 => exact (Kd.R_reads' HO295.out).2.1); (case side3 => repeat (first | exact (Kd.R_reads' HO298.out).2.2 | (with_reducible refine Kd.C_alloc ?_ _) | (with_reducible refine Kd.C_drewN ?_ _) | (with_reducible refine Kd.C_drew ?_))); (case side4 => exact (Kd.R_reads' HO298.out).2.1); rintro e w' ⟨rfl, ⟨nd, rfl⟩⟩; (try first | exact ⟨rfl, _, World.drewN_drewN _ _ _⟩ | exact ⟨rfl, _, Eq.trans (World.drewN_drewN _ _ _) (congrArg (World.drewN _) (Nat.add_assoc _ _ _))⟩)) | (go_at_call 20; (with_reducible refine (withylaw05_fixed.calls kj13  t300 _ A62.out).mono ?_); rintro e w75 ⟨rfl, hb⟩; have n0_ := Aside0.mk (Kd.R_below (by (with_reducible repeat (first | apply Kd.R_alloc | apply Kd.R_drewN | apply Kd.R_drew)); exact HO295.out) hb); have n1_ := Aside0.mk (Kd.R_below (by (with_reducible repeat (first | apply Kd.R_alloc | apply Kd.R_drewN | apply Kd.R_drew)); exact HO298.out) hb); have n2_ := Aside0.mk (blk_below (g := gb271) (o := .cells #[.string a0_0, .string a0_1, .string a0_2] 39 (0, 0)) (by (with_reducible repeat (first | refine blk_drewN ?_ _ | refine blk_drew ?_ | refine blk_alloc ?_ _)); exact BK271.out) hb); have n3_ := Aside0.mk (below_step (by repeat (first | (with_reducible first | exact HB.out | apply below_alloc | apply pw_below_drewN | apply below_drew1 | refine below_set ?_ GE271.out) | exact HB.out)) hb); clear HO295; clear HO298; clear BK271; clear HB; have HO295 := n0_; have HO298 := n1_; have BK271 := n2_; have HB := n3_; clear n0_ n1_ n2_ n3_; (try clear hb); (try clear hb2); (try clear hk); (try clear hi)))
                                      repeat (go_quiet (first | (go_at_call 10; (with_reducible refine (sep_Least.calls kj13 js5 js9 t284 t285 _ A42.out).mono ?_); rintro e w63 ⟨rfl, hb⟩; have n0_ := Aside0.mk (blk_below (g := gb271) (o := .cells #[.string a0_0, .string a0_1, .string a0_2] 39 (0, 0)) (by (with_reducible repeat (first | refine blk_drewN ?_ _ | refine blk_drew ?_ | refine blk_alloc ?_ _)); exact BK271.out) hb); have n1_ := Aside0.mk (below_step (by repeat (first | (with_reducible first | exact HB.out | apply below_alloc | apply pw_below_drewN | apply below_drew1 | refine below_set ?_ GE271.out) | exact HB.out)) hb); clear BK271; clear HB; have BK271 := n0_; have HB := n1_; clear n0_ n1_; (try clear hb); (try clear hb2); (try clear hk); (try clear hi)) | (go_at_call 10; (with_reducible refine (sep_Least.calls kj13 js9 js13 t286 t287 _ A43.out).mono ?_); rintro e w64 ⟨rfl, hb⟩; have n0_ := Aside0.mk (blk_below (g := gb271) (o := .cells #[.string a0_0, .string a0_1, .string a0_2] 39 (0, 0)) (by (with_reducible repeat (first | refine blk_drewN ?_ _ | refine blk_drew ?_ | refine blk_alloc ?_ _)); exact BK271.out) hb); have n1_ := Aside0.mk (below_step (by repeat (first | (with_reducible first | exact HB.out | apply below_alloc | apply pw_below_drewN | apply below_drew1 | refine below_set ?_ GE271.out) | exact HB.out)) hb); clear BK271; clear HB; have BK271 := n0_; have HB := n1_; clear n0_ n1_; (try clear hb); (try clear hb2); (try clear hk); (try clear hi)) | (go_at_call 10; (with_reducible refine (sep_Least.calls kj13 js5 js13 t288 t289 _ A44.out).mono ?_); rintro e w65 ⟨rfl, hb⟩; have n0_ := Aside0.mk (blk_below (g := gb271) (o := .cells #[.string a0_0, .string a0_1, .string a0_2] 39 (0, 0)) (by (with_reducible repeat (first | refine blk_drewN ?_ _ | refine blk_drew ?_ | refine blk_alloc ?_ _)); exact BK271.out) hb); have n1_ := Aside0.mk (below_step (by repeat (first | (with_reducible first | exact HB.out | apply below_alloc | apply pw_below_drewN | apply below_drew1 | refine below_set ?_ GE271.out) | exact HB.out)) hb); clear BK271; clear HB; have BK271 := n0_; have HB := n1_; clear n0_ n1_; (try clear hb); (try clear hb2); (try clear hk); (try clear hi)) | (go_at_call 14; (with_reducible refine (sep_Common.calls kj13 js5 js9 t290 _ A45.out).mono ?_); rintro e w66 ⟨rfl, hb⟩; have n0_ := Aside0.mk (blk_below (g := gb271) (o := .cells #[.string a0_0, .string a0_1, .string a0_2] 39 (0, 0)) (by (with_reducible repeat (first | refine blk_drewN ?_ _ | refine blk_drew ?_ | refine blk_alloc ?_ _)); exact BK271.out) hb); have n1_ := Aside0.mk (below_step (by repeat (first | (with_reducible first | exact HB.out | apply below_alloc | apply pw_below_drewN | apply below_drew1 | refine below_set ?_ GE271.out) | exact HB.out)) hb); clear BK271; clear HB; have BK271 := n0_; have HB := n1_; clear n0_ n1_; (try clear hb); (try clear hb2); (try clear hk); (try clear hi)) | (go_at_call 14; (with_reducible refine (sep_Common.calls kj13 js9 js13 t291 _ A46.out).mono ?_); rintro e w67 ⟨rfl, hb⟩; have n0_ := Aside0.mk (blk_below (g := gb271) (o := .cells #[.string a0_0, .string a0_1, .string a0_2] 39 (0, 0)) (by (with_reducible repeat (first | refine blk_drewN ?_ _ | refine blk_drew ?_ | refine blk_alloc ?_ _)); exact BK271.out) hb); have n1_ := Aside0.mk (below_step (by repeat (first | (with_reducible first | exact HB.out | apply below_alloc | apply pw_below_drewN | apply below_drew1 | refine below_set ?_ GE271.out) | exact HB.out)) hb); clear BK271; clear HB; have BK271 := n0_; have HB := n1_; clear n0_ n1_; (try clear hb); (try clear hb2); (try clear hk); (try clear hi)) | (go_at_call 14; (with_reducible refine (sep_Common.calls kj13 js5 js13 t292 _ A51.out).mono ?_); rintro e w68 ⟨rfl, hb⟩; have n0_ := Aside0.mk (blk_below (g := gb271) (o := .cells #[.string a0_0, .string a0_1, .string a0_2] 39 (0, 0)) (by (with_reducible repeat (first | refine blk_drewN ?_ _ | refine blk_drew ?_ | refine blk_alloc ?_ _)); exact BK271.out) hb); have n1_ := Aside0.mk (below_step (by repeat (first | (with_reducible first | exact HB.out | apply below_alloc | apply pw_below_drewN | apply below_drew1 | refine below_set ?_ GE271.out) | exact HB.out)) hb); clear BK271; clear HB; have BK271 := n0_; have HB := n1_; clear n0_ n1_; (try clear hb); (try clear hb2); (try clear hk); (try clear hi)) | ((with_reducible refine gate_dst (N := 120) rfl ?_); (try (refine gate_guard (by rfl) ?_; dsimp only)); refine Kd.R_lit Kd.string _ 9 ?hg (N := 120) ?hd (xs := ([t288] : List ByteArray)) (inner := [.string t288]) (ok := fun _ => True) (okp := fun _ => True) ?hr ?hp (fun _ hk => hk) trivial (Below.refl _ _) (Nat.le_refl _) (by simp) ?_; (case hd => rfl); (case hg => rfl); (case hr => first | (go_simp; done) | (go_simp; rfl)); (case hp => exact (Reps.one (show Kd.M Kd.string _ _ _ t288 [.string t288] from rfl) (Reps.none _ _))); intro v294 w69 ho70 hb hg_ hnew_; clear hg_ hnew_; (first | rw [← Ny293.out] at ho70 | (simp only [Int.reduceToNat] at ho70; rw [← Ny293.out] at ho70)); have n0_ := Aside0.mk (Kd.R_lower ho70 (below_size (by repeat (first | (with_reducible first | exact HB.out | apply below_alloc | apply pw_below_drewN | apply below_drew1 | refine below_set ?_ GE271.out) | exact HB.out)))); have n1_ := Aside0.mk (blk_below (g := gb271) (o := .cells #[.string a0_0, .string a0_1, .string a0_2] 39 (0, 0)) (by (with_reducible repeat (first | refine blk_drewN ?_ _ | refine blk_drew ?_ | refine blk_alloc ?_ _)); exact BK271.out) hb); have n2_ := Aside0.mk (below_step (by repeat (first | (with_reducible first | exact HB.out | apply below_alloc | apply pw_below_drewN | apply below_drew1 | refine below_set ?_ GE271.out) | exact HB.out)) hb); clear BK271; clear HB; have HO295 := n0_; have BK271 := n1_; have HB := n2_; clear n0_ n1_ n2_; clear hb ho70) | ((with_reducible refine gate_dst (N := 125) rfl ?_); (try (refine gate_guard (by rfl) ?_; dsimp only)); refine Kd.R_lit Kd.string _ 9 ?hg (N := 125) ?hd (xs := ([js59] : List ByteArray)) (inner := [.string js59]) (ok := fun _ => True) (okp := fun _ => True) ?hr ?hp (fun _ hk => hk) trivial (Below.refl _ _) (Nat.le_refl _) (by simp) ?_; (case hd => rfl); (case hg => rfl); (case hr => first | (go_simp; done) | (go_simp; rfl)); (case hp => exact (Reps.one (show Kd.M Kd.string _ _ _ js59 [.string js59] from rfl) (Reps.none _ _))); intro v297 w71 ho72 hb hg_ hnew_; clear hg_ hnew_; (first | rw [← Ny296.out] at ho72 | (simp only [Int.reduceToNat] at ho72; rw [← Ny296.out] at ho72)); have n0_ := Aside0.mk (Kd.R_elder' (by (with_reducible repeat (first | apply Kd.R_alloc | apply Kd.R_drewN | apply Kd.R_drew)); exact HO295.out) (Kd.R_base ho72) hb); have n1_ := Aside0.mk (Kd.R_lower (Kd.R_new' ho72 (Kd.R_lt (by (with_reducible repeat (first | apply Kd.R_alloc | apply Kd.R_drewN | apply Kd.R_drew)); exact HO295.out))) (below_size (by repeat (first | (with_reducible first | exact HB.out | apply below_alloc | apply pw_below_drewN | apply below_drew1 | refine below_set ?_ GE271.out) | exact HB.out)))); have n2_ := Aside0.mk (blk_below (g := gb271) (o := .cells #[.string a0_0, .string a0_1, .string a0_2] 39 (0, 0)) (by (with_reducible repeat (first | refine blk_drewN ?_ _ | refine blk_drew ?_ | refine blk_alloc ?_ _)); exact BK271.out) hb); have n3_ := Aside0.mk (below_step (by repeat (first | (with_reducible first | exact HB.out | apply below_alloc | apply pw_below_drewN | apply below_drew1 | refine below_set ?_ GE271.out) | exact HB.out)) hb); clear HO295; clear BK271; clear HB; have HO295 := n0_; have HO298 := n1_; have BK271 := n2_; have HB := n3_; clear n0_ n1_ n2_ n3_; clear hb ho72; obtain ⟨Ao73, co73, eo73⟩ := Kd.R_slice HO295.out; subst eo73; obtain ⟨Ao74, co74, eo74⟩ := Kd.R_slice HO298.out; subst eo74) | (go_at_call 18; (with_reducible refine (withyref01_Words.calls kj13 _ _ y293 _ _ y296 true _ ?side1 ?side2 ?side3 ?side4 A60.out).mono ?_); (case side1 => repeat (first | exact (Kd.R_reads' HO295.out).2.2 | (with_reducible refine Kd.C_alloc ?_ _) | (with_reducible refine Kd.C_drewN ?_ _) | (with_reducible refine Kd.C_drew ?_))); (case side2 => exact (Kd.R_reads' HO295.out).2.1); (case side3 => repeat (first | exact (Kd.R_reads' HO298.out).2.2 | (with_reducible refine Kd.C_alloc ?_ _) | (with_reducible refine Kd.C_drewN ?_ _) | (with_reducible refine Kd.C_drew ?_))); (case side4 => exact (Kd.R_reads' HO298.out).2.1); rintro e w' ⟨rfl, ⟨nd, rfl⟩⟩; (try first | exact ⟨rfl, _, World.drewN_drewN _ _ _⟩ | exact ⟨rfl, _, Eq.trans (World.drewN_drewN _ _ _) (congrArg (World.drewN _) (Nat.add_assoc _ _ _))⟩)) | (go_at_call 20; (with_reducible refine (withylaw05_fixed.calls kj13  t300 _ A62.out).mono ?_); rintro e w75 ⟨rfl, hb⟩; have n0_ := Aside0.mk (Kd.R_below (by (with_reducible repeat (first | apply Kd.R_alloc | apply Kd.R_drewN | apply Kd.R_drew)); exact HO295.out) hb); have n1_ := Aside0.mk (Kd.R_below (by (with_reducible repeat (first | apply Kd.R_alloc | apply Kd.R_drewN | apply Kd.R_drew)); exact HO298.out) hb); have n2_ := Aside0.mk (blk_below (g := gb271) (o := .cells #[.string a0_0, .string a0_1, .string a0_2] 39 (0, 0)) (by (with_reducible repeat (first | refine blk_drewN ?_ _ | refine blk_drew ?_ | refine blk_alloc ?_ _)); exact BK271.out) hb); have n3_ := Aside0.mk (below_step (by repeat (first | (with_reducible first | exact HB.out | apply below_alloc | apply pw_below_drewN | apply below_drew1 | refine below_set ?_ GE271.out) | exact HB.out)) hb); clear HO295; clear HO298; clear BK271; clear HB; have HO295 := n0_; have HO298 := n1_; have BK271 := n2_; have HB := n3_; clear n0_ n1_ n2_ n3_; (try clear hb); (try clear hb2); (try clear hk); (try clear hi))); try go_wp2_with (first | (go_at_call 10; (with_reducible refine (sep_Least.calls kj13 js5 js9 t284 t285 _ A42.out).mono ?_); rintro e w63 ⟨rfl, hb⟩; have n0_ := Aside0.mk (blk_below (g := gb271) (o := .cells #[.string a0_0, .string a0_1, .string a0_2] 39 (0, 0)) (by (with_reducible repeat (first | refine blk_drewN ?_ _ | refine blk_drew ?_ | refine blk_alloc ?_ _)); exact BK271.out) hb); have n1_ := Aside0.mk (below_step (by repeat (first | (with_reducible first | exact HB.out | apply below_alloc | apply pw_below_drewN | apply below_drew1 | refine below_set ?_ GE271.out) | exact HB.out)) hb); clear BK271; clear HB; have BK271 := n0_; have HB := n1_; clear n0_ n1_; (try clear hb); (try clear hb2); (try clear hk); (try clear hi)) | (go_at_call 10; (with_reducible refine (sep_Least.calls kj13 js9 js13 t286 t287 _ A43.out).mono ?_); rintro e w64 ⟨rfl, hb⟩; have n0_ := Aside0.mk (blk_below (g := gb271) (o := .cells #[.string a0_0, .string a0_1, .string a0_2] 39 (0, 0)) (by (with_reducible repeat (first | refine blk_drewN ?_ _ | refine blk_drew ?_ | refine blk_alloc ?_ _)); exact BK271.out) hb); have n1_ := Aside0.mk (below_step (by repeat (first | (with_reducible first | exact HB.out | apply below_alloc | apply pw_below_drewN | apply below_drew1 | refine below_set ?_ GE271.out) | exact HB.out)) hb); clear BK271; clear HB; have BK271 := n0_; have HB := n1_; clear n0_ n1_; (try clear hb); (try clear hb2); (try clear hk); (try clear hi)) | (go_at_call 10; (with_reducible refine (sep_Least.calls kj13 js5 js13 t288 t289 _ A44.out).mono ?_); rintro e w65 ⟨rfl, hb⟩; have n0_ := Aside0.mk (blk_below (g := gb271) (o := .cells #[.string a0_0, .string a0_1, .string a0_2] 39 (0, 0)) (by (with_reducible repeat (first | refine blk_drewN ?_ _ | refine blk_drew ?_ | refine blk_alloc ?_ _)); exact BK271.out) hb); have n1_ := Aside0.mk (below_step (by repeat (first | (with_reducible first | exact HB.out | apply below_alloc | apply pw_below_drewN | apply below_drew1 | refine below_set ?_ GE271.out) | exact HB.out)) hb); clear BK271; clear HB; have BK271 := n0_; have HB := n1_; clear n0_ n1_; (try clear hb); (try clear hb2); (try clear hk); (try clear hi)) | (go_at_call 14; (with_reducible refine (sep_Common.calls kj13 js5 js9 t290 _ A45.out).mono ?_); rintro e w66 ⟨rfl, hb⟩; have n0_ := Aside0.mk (blk_below (g := gb271) (o := .cells #[.string a0_0, .string a0_1, .string a0_2] 39 (0, 0)) (by (with_reducible repeat (first | refine blk_drewN ?_ _ | refine blk_drew ?_ | refine blk_alloc ?_ _)); exact BK271.out) hb); have n1_ := Aside0.mk (below_step (by repeat (first | (with_reducible first | exact HB.out | apply below_alloc | apply pw_below_drewN | apply below_drew1 | refine below_set ?_ GE271.out) | exact HB.out)) hb); clear BK271; clear HB; have BK271 := n0_; have HB := n1_; clear n0_ n1_; (try clear hb); (try clear hb2); (try clear hk); (try clear hi)) | (go_at_call 14; (with_reducible refine (sep_Common.calls kj13 js9 js13 t291 _ A46.out).mono ?_); rintro e w67 ⟨rfl, hb⟩; have n0_ := Aside0.mk (blk_below (g := gb271) (o := .cells #[.string a0_0, .string a0_1, .string a0_2] 39 (0, 0)) (by (with_reducible repeat (first | refine blk_drewN ?_ _ | refine blk_drew ?_ | refine blk_alloc ?_ _)); exact BK271.out) hb); have n1_ := Aside0.mk (below_step (by repeat (first | (with_reducible first | exact HB.out | apply below_alloc | apply pw_below_drewN | apply below_drew1 | refine below_set ?_ GE271.out) | exact HB.out)) hb); clear BK271; clear HB; have BK271 := n0_; have HB := n1_; clear n0_ n1_; (try clear hb); (try clear hb2); (try clear hk); (try clear hi)) | (go_at_call 14; (with_reducible refine (sep_Common.calls kj13 js5 js13 t292 _ A51.out).mono ?_); rintro e w68 ⟨rfl, hb⟩; have n0_ := Aside0.mk (blk_below (g := gb271) (o := .cells #[.string a0_0, .string a0_1, .string a0_2] 39 (0, 0)) (by (with_reducible repeat (first | refine blk_drewN ?_ _ | refine blk_drew ?_ | refine blk_alloc ?_ _)); exact BK271.out) hb); have n1_ := Aside0.mk (below_step (by repeat (first | (with_reducible first | exact HB.out | apply below_alloc | apply pw_below_drewN | apply below_drew1 | refine below_set ?_ GE271.out) | exact HB.out)) hb); clear BK271; clear HB; have BK271 := n0_; have HB := n1_; clear n0_ n1_; (try clear hb); (try clear hb2); (try clear hk); (try clear hi)) | ((with_reducible refine gate_dst (N := 120) rfl ?_); (try (refine gate_guard (by rfl) ?_; dsimp only)); refine Kd.R_lit Kd.string _ 9 ?hg (N := 120) ?hd (xs := ([t288] : List ByteArray)) (inner := [.string t288]) (ok := fun _ => True) (okp := fun _ => True) ?hr ?hp (fun _ hk => hk) trivial (Below.refl _ _) (Nat.le_refl _) (by simp) ?_; (case hd => rfl); (case hg => rfl); (case hr => first | (go_simp; done) | (go_simp; rfl)); (case hp => exact (Reps.one (show Kd.M Kd.string _ _ _ t288 [.string t288] from rfl) (Reps.none _ _))); intro v294 w69 ho70 hb hg_ hnew_; clear hg_ hnew_; (first | rw [← Ny293.out] at ho70 | (simp only [Int.reduceToNat] at ho70; rw [← Ny293.out] at ho70)); have n0_ := Aside0.mk (Kd.R_lower ho70 (below_size (by repeat (first | (with_reducible first | exact HB.out | apply below_alloc | apply pw_below_drewN | apply below_drew1 | refine below_set ?_ GE271.out) | exact HB.out)))); have n1_ := Aside0.mk (blk_below (g := gb271) (o := .cells #[.string a0_0, .string a0_1, .string a0_2] 39 (0, 0)) (by (with_reducible repeat (first | refine blk_drewN ?_ _ | refine blk_drew ?_ | refine blk_alloc ?_ _)); exact BK271.out) hb); have n2_ := Aside0.mk (below_step (by repeat (first | (with_reducible first | exact HB.out | apply below_alloc | apply pw_below_drewN | apply below_drew1 | refine below_set ?_ GE271.out) | exact HB.out)) hb); clear BK271; clear HB; have HO295 := n0_; have BK271 := n1_; have HB := n2_; clear n0_ n1_ n2_; clear hb ho70) | ((with_reducible refine gate_dst (N := 125) rfl ?_); (try (refine gate_guard (by rfl) ?_; dsimp only)); refine Kd.R_lit Kd.string _ 9 ?hg (N := 125) ?hd (xs := ([js59] : List ByteArray)) (inner := [.string js59]) (ok := fun _ => True) (okp := fun _ => True) ?hr ?hp (fun _ hk => hk) trivial (Below.refl _ _) (Nat.le_refl _) (by simp) ?_; (case hd => rfl); (case hg => rfl); (case hr => first | (go_simp; done) | (go_simp; rfl)); (case hp => exact (Reps.one (show Kd.M Kd.string _ _ _ js59 [.string js59] from rfl) (Reps.none _ _))); intro v297 w71 ho72 hb hg_ hnew_; clear hg_ hnew_; (first | rw [← Ny296.out] at ho72 | (simp only [Int.reduceToNat] at ho72; rw [← Ny296.out] at ho72)); have n0_ := Aside0.mk (Kd.R_elder' (by (with_reducible repeat (first | apply Kd.R_alloc | apply Kd.R_drewN | apply Kd.R_drew)); exact HO295.out) (Kd.R_base ho72) hb); have n1_ := Aside0.mk (Kd.R_lower (Kd.R_new' ho72 (Kd.R_lt (by (with_reducible repeat (first | apply Kd.R_alloc | apply Kd.R_drewN | apply Kd.R_drew)); exact HO295.out))) (below_size (by repeat (first | (with_reducible first | exact HB.out | apply below_alloc | apply pw_below_drewN | apply below_drew1 | refine below_set ?_ GE271.out) | exact HB.out)))); have n2_ := Aside0.mk (blk_below (g := gb271) (o := .cells #[.string a0_0, .string a0_1, .string a0_2] 39 (0, 0)) (by (with_reducible repeat (first | refine blk_drewN ?_ _ | refine blk_drew ?_ | refine blk_alloc ?_ _)); exact BK271.out) hb); have n3_ := Aside0.mk (below_step (by repeat (first | (with_reducible first | exact HB.out | apply below_alloc | apply pw_below_drewN | apply below_drew1 | refine below_set ?_ GE271.out) | exact HB.out)) hb); clear HO295; clear BK271; clear HB; have HO295 := n0_; have HO298 := n1_; have BK271 := n2_; have HB := n3_; clear n0_ n1_ n2_ n3_; clear hb ho72; obtain ⟨Ao73, co73, eo73⟩ := Kd.R_slice HO295.out; subst eo73; obtain ⟨Ao74, co74, eo74⟩ := Kd.R_slice HO298.out; subst eo74) | (go_at_call 18; (with_reducible refine (withyref01_Words.calls kj13 _ _ y293 _ _ y296 true _ ?side1 ?side2 ?side3 ?side4 A60.out).mono ?_); (case side1 => repeat (first | exact (Kd.R_reads' HO295.out).2.2 | (with_reducible refine Kd.C_alloc ?_ _) | (with_reducible refine Kd.C_drewN ?_ _) | (with_reducible refine Kd.C_drew ?_))); (case side2 => exact (Kd.R_reads' HO295.out).2.1); (case side3 => repeat (first | exact (Kd.R_reads' HO298.out).2.2 | (with_reducible refine Kd.C_alloc ?_ _) | (with_reducible refine Kd.C_drewN ?_ _) | (with_reducible refine Kd.C_drew ?_))); (case side4 => exact (Kd.R_reads' HO298.out).2.1); rintro e w' ⟨rfl, ⟨nd, rfl⟩⟩; (try first | exact ⟨rfl, _, World.drewN_drewN _ _ _⟩ | exact ⟨rfl, _, Eq.trans (World.drewN_drewN _ _ _) (congrArg (World.drewN _) (Nat.add_assoc _ _ _))⟩)) | (go_at_call 20; (with_reducible refine (withylaw05_fixed.calls kj13  t300 _ A62.out).mono ?_); rintro e w75 ⟨rfl, hb⟩; have n0_ := Aside0.mk (Kd.R_below (by (with_reducible repeat (first | apply Kd.R_alloc | apply Kd.R_drewN | apply Kd.R_drew)); exact HO295.out) hb); have n1_ := Aside0.mk (Kd.R_below (by (with_reducible repeat (first | apply Kd.R_alloc | apply Kd.R_drewN | apply Kd.R_drew)); exact HO298.out) hb); have n2_ := Aside0.mk (blk_below (g := gb271) (o := .cells #[.string a0_0, .string a0_1, .string a0_2] 39 (0, 0)) (by (with_reducible repeat (first | refine blk_drewN ?_ _ | refine blk_drew ?_ | refine blk_alloc ?_ _)); exact BK271.out) hb); have n3_ := Aside0.mk (below_step (by repeat (first | (with_reducible first | exact HB.out | apply below_alloc | apply pw_below_drewN | apply below_drew1 | refine below_set ?_ GE271.out) | exact HB.out)) hb); clear HO295; clear HO298; clear BK271; clear HB; have HO295 := n0_; have HO298 := n1_; have BK271 := n2_; have HB := n3_; clear n0_ n1_ n2_ n3_; (try clear hb); (try clear hb2); (try clear hk); (try clear hi))))
                                      go_ret
                                      exact ⟨by first | rfl | (simp [errW_none, errW_some] <;> rfl) | (simp only [← hji2, ← hjs5, ← hji6, ← hjs9, ← hji10, ← hjs13, ← hji47, ← hji54, ← hji56, ← hjs59]; first | rfl | (simp [errW_none, errW_some] <;> rfl)) | (simp [*, errW_none, errW_some] <;> rfl), by repeat (first | (with_reducible first | exact HB.out | apply below_alloc | apply pw_below_drewN | apply below_drew1 | refine below_set ?_ GE271.out) | exact HB.out)⟩
                                    · replace c61 := Bool.eq_false_iff.mpr c61
                                      subst c61
                                      have H1 : (none) = some r := by rw [if_neg (show ¬ (false = true) by decide)] at H; exact H
                                      clear H
                                      have H := H1
                                      clear H1
                                      exact absurd H (by simp)
                                  · rw [if_neg c58] at H
                                    exact absurd H (by simp)
                                · rw [if_neg c57] at H
                                  exact absurd H (by simp)
                              · rw [if_neg c55] at H
                                exact absurd H (by simp)
                            · rw [if_neg c53] at H
                              exact absurd H (by simp)
                          · rw [if_neg c52] at H
                            exact absurd H (by simp)
                        · rw [if_neg c50] at H
                          exact absurd H (by simp)
                      · rw [if_neg c49] at H
                        exact absurd H (by simp)
                    · rw [if_neg c48] at H
                      exact absurd H (by simp)
            · rw [if_neg c12] at H
              exact absurd H (by simp)
          · rw [if_neg c11] at H
            exact absurd H (by simp)
        · rw [if_neg c8] at H
          exact absurd H (by simp)
      · rw [if_neg c7] at H
        exact absurd H (by simp)
    · rw [if_neg c4] at H
      exact absurd H (by simp)
  · rw [if_neg c3] at H
    exact absurd H (by simp)

end Go.Proofs.Ythflaiogollleaa.P
