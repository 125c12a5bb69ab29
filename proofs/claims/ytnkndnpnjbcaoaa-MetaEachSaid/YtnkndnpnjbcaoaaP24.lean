/- What is proved here: for functions of the Go text, a Lean function each, and that the call comes to just what it answers. Conditions: as each contract names them. Written by wip/tools/myprint.py, a driver of the print of the kit. -/
import Derived.Test.YtnkndnpnjbcaoaaP0
namespace Go.Proofs.Ytnkndnpnjbcaoaa.P
open Go.RowKit Go.Proofs.YtnkndnpnjbcaoaaW.PrintWords Go.Proofs.YtnkndnpnjbcaoaaW.PrintLast Go.Proofs.YtnkndnpnjbcaoaaW.PrintMore
attribute [local go_sem] max2_int min2_int max_two min_two max_three min_three max_four min_four Go.Proofs.YtnkndnpnjbcaoaaLaws.str_leq Go.Proofs.YtnkndnpnjbcaoaaLaws.str_gtr Go.Proofs.YtnkndnpnjbcaoaaLaws.str_geq Go.Proofs.YtnkndnpnjbcaoaaLaws.max2_str Go.Proofs.YtnkndnpnjbcaoaaLaws.min2_str   -- for this text's walks alone
set_option linter.unusedVariables false
set_option linter.unusedSimpArgs false

/-! ### meta_Tear: function 16 -/
def meta_Tear.f (a0 : ByteArray) (a1 : ByteArray) (a2 : Int) : Option (ByteArray) := if (a0.size : Int) = (a1.size : Int) then (if 0 ≤ (mn (mx a2 0) (a0.size : Int)) then (if (mn (mx a2 0) (a0.size : Int)) ≤ (a0.size : Int) then (if (mn (mx a2 0) (a0.size : Int)) ≤ (a1.size : Int) then (if (a0.extract 0 ((mn (mx a2 0) (a0.size : Int)) : Int).toNat).size + (a1.extract ((mn (mx a2 0) (a0.size : Int)) : Int).toNat a1.size).size ≤ 9223372036854775807 then (some ((a0.extract 0 ((mn (mx a2 0) (a0.size : Int)) : Int).toNat) ++ (a1.extract ((mn (mx a2 0) (a0.size : Int)) : Int).toNat a1.size))) else (none)) else (none)) else (none)) else (none)) else (some (⟨#[]⟩ : ByteArray))
set_option maxHeartbeats 8000000 in
set_option maxRecDepth 100000 in
theorem meta_Tear.calls (a0 : ByteArray) (a1 : ByteArray) (a2 : Int) (r : ByteArray) (w : World) (h : meta_Tear.f a0 a1 a2 = some r) :
  Calls Try.prog 16 #[.string a0, .string a1, .int .i64 a2] w fun e w' => e = .returned (.string r) ∧ Below w.heap.size w w' := by
 have HB := Aside0.mk (Below.refl w.heap.size w)
 have H : (if (a0.size : Int) = (a1.size : Int) then (if 0 ≤ (mn (mx a2 0) (a0.size : Int)) then (if (mn (mx a2 0) (a0.size : Int)) ≤ (a0.size : Int) then (if (mn (mx a2 0) (a0.size : Int)) ≤ (a1.size : Int) then (if (a0.extract 0 ((mn (mx a2 0) (a0.size : Int)) : Int).toNat).size + (a1.extract ((mn (mx a2 0) (a0.size : Int)) : Int).toNat a1.size).size ≤ 9223372036854775807 then (some ((a0.extract 0 ((mn (mx a2 0) (a0.size : Int)) : Int).toNat) ++ (a1.extract ((mn (mx a2 0) (a0.size : Int)) : Int).toNat a1.size))) else (none)) else (none)) else (none)) else (none)) else (some (⟨#[]⟩ : ByteArray))) = some r := h
 clear h
 by_cases c4 : (a0.size : Int) = (a1.size : Int)
 ·
  rw [if_pos c4] at H
  have c4b0 : ((a0.size : Int) == (a1.size : Int)) = true := beq_iff_eq.mpr c4
  have c4b1 : ((a0.size : Int) != (a1.size : Int)) = false := bne_eq_false_iff_eq.mpr c4
  have c4b2 : (a0.size == a1.size) = true := by first | simpa using c4 | (simp at c4 ⊢; omega)
  clear c4
  obtain ⟨ji5, hji5⟩ : ∃ j_ : Int, (mx a2 0) = j_ := ⟨_, rfl⟩
  replace H : (if 0 ≤ (mn (ji5) (a0.size : Int)) then (if (mn (ji5) (a0.size : Int)) ≤ (a0.size : Int) then (if (mn (ji5) (a0.size : Int)) ≤ (a1.size : Int) then (if (a0.extract 0 ((mn (ji5) (a0.size : Int)) : Int).toNat).size + (a1.extract ((mn (ji5) (a0.size : Int)) : Int).toNat a1.size).size ≤ 9223372036854775807 then (some ((a0.extract 0 ((mn (ji5) (a0.size : Int)) : Int).toNat) ++ (a1.extract ((mn (ji5) (a0.size : Int)) : Int).toNat a1.size))) else (none)) else (none)) else (none)) else (none)) = some r := by first | (rw [hji5] at H; exact H) | (simp only [hji5] at H ⊢; exact H)
  (try (have hji5l : 0 ≤ ji5 := by (rw [← hji5]; unfold mx; (repeat' split) <;> omega)))
  (try (have hji5m : 0 ≤ ji5 := by omega))
  have hji5_ : (if a2 < 0 then 0 else a2) = ji5 := hji5
  obtain ⟨ji6, hji6⟩ : ∃ j_ : Int, (mn (ji5) (a0.size : Int)) = j_ := ⟨_, rfl⟩
  replace H : (if 0 ≤ (ji6) then (if (ji6) ≤ (a0.size : Int) then (if (ji6) ≤ (a1.size : Int) then (if (a0.extract 0 ((ji6) : Int).toNat).size + (a1.extract ((ji6) : Int).toNat a1.size).size ≤ 9223372036854775807 then (some ((a0.extract 0 ((ji6) : Int).toNat) ++ (a1.extract ((ji6) : Int).toNat a1.size))) else (none)) else (none)) else (none)) else (none)) = some r := by first | (rw [hji6] at H; exact H) | (simp only [hji6] at H ⊢; exact H)
  have hji6_ : (if (a0.size : Int) < (ji5) then (a0.size : Int) else (ji5)) = ji6 := hji6
  by_cases c7 : 0 ≤ (ji6)
  ·
   rw [if_pos c7] at H
   have c7b0 := eq_true c7
   have c7b1 : decide (0 ≤ (ji6)) = true := decide_eq_true c7
   clear c7
   by_cases c8 : (ji6) ≤ (a0.size : Int)
   ·
    rw [if_pos c8] at H
    have c8b0 := eq_true c8
    have c8b1 : decide ((ji6) ≤ (a0.size : Int)) = true := decide_eq_true c8
    clear c8
    obtain ⟨js9, hjs9⟩ : ∃ j_ : ByteArray, (a0.extract 0 ((ji6) : Int).toNat) = j_ := ⟨_, rfl⟩
    replace H : (if (ji6) ≤ (a1.size : Int) then (if (js9).size + (a1.extract ((ji6) : Int).toNat a1.size).size ≤ 9223372036854775807 then (some ((js9) ++ (a1.extract ((ji6) : Int).toNat a1.size))) else (none)) else (none)) = some r := by first | (rw [hjs9] at H; exact H) | (simp only [hjs9] at H ⊢; exact H)
    have c10b0 := eq_true (of_decide_eq_true (by first | (with_reducible assumption) | assumption) : 0 ≤ (ji6))
    by_cases c11 : (ji6) ≤ (a1.size : Int)
    ·
     rw [if_pos c11] at H
     have c11b0 := eq_true c11
     have c11b1 : decide ((ji6) ≤ (a1.size : Int)) = true := decide_eq_true c11
     clear c11
     obtain ⟨js12, hjs12⟩ : ∃ j_ : ByteArray, (a1.extract ((ji6) : Int).toNat a1.size) = j_ := ⟨_, rfl⟩
     replace H : (if (js9).size + (js12).size ≤ 9223372036854775807 then (some ((js9) ++ (js12))) else (none)) = some r := by first | (rw [hjs12] at H; exact H) | (simp only [hjs12] at H ⊢; exact H)
     by_cases c13 : (js9).size + (js12).size ≤ 9223372036854775807
     ·
      rw [if_pos c13] at H
      have c13b0 := eq_true c13
      have c13b1 : decide ((js9).size + (js12).size ≤ 9223372036854775807) = true := decide_eq_true c13
      try have c13b2 : (9223372036854775807 < (js9).size + (js12).size) = False := eq_false (Nat.not_lt.2 c13)
      obtain ⟨js14, hjs14⟩ : ∃ j_ : ByteArray, ((js9) ++ (js12)) = j_ := ⟨_, rfl⟩
      replace H : (some js14) = some r := by first | (rw [hjs14] at H; exact H) | (simp only [hjs14] at H ⊢; exact H)
      obtain rfl := Option.some.inj H
      go_enter Try.func16, Try.ntmps16
      go_wp2
      repeat (go_quiet (fail); try go_wp2)
      go_ret
      exact ⟨by first | rfl | (simp [errW_none, errW_some] <;> rfl) | (simp only [← hji5, ← hji6, ← hjs9, ← hjs12, ← hjs14]; first | rfl | (simp [errW_none, errW_some] <;> rfl)) | (simp [*, errW_none, errW_some] <;> rfl), by repeat (first | (with_reducible first | exact HB.out | apply below_alloc | apply pw_below_drewN | apply below_drew1) | exact HB.out)⟩
     ·
      rw [if_neg c13] at H
      exact absurd H (by simp)
    ·
     rw [if_neg c11] at H
     exact absurd H (by simp)
   ·
    rw [if_neg c8] at H
    exact absurd H (by simp)
  ·
   rw [if_neg c7] at H
   exact absurd H (by simp)
 ·
  rw [if_neg c4] at H
  have c4b0 : ((a0.size : Int) == (a1.size : Int)) = false := beq_eq_false_iff_ne.mpr c4
  have c4b1 : ((a0.size : Int) != (a1.size : Int)) = true := bne_iff_ne.mpr c4
  have c4b2 : (a0.size == a1.size) = false := by first | simpa using c4 | (simp at c4 ⊢; omega)
  obtain rfl := Option.some.inj H
  go_enter Try.func16, Try.ntmps16
  go_wp2
  repeat (go_quiet (fail); try go_wp2)
  go_ret
  exact ⟨by first | rfl | (simp [errW_none, errW_some] <;> rfl) | (simp [*, errW_none, errW_some] <;> rfl), by repeat (first | (with_reducible first | exact HB.out | apply below_alloc | apply pw_below_drewN | apply below_drew1) | exact HB.out)⟩
end Go.Proofs.Ytnkndnpnjbcaoaa.P
