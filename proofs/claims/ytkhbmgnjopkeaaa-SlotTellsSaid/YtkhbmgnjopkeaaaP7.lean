/- What is proved here: for functions of the Go text, a Lean function each, and that the call comes to just what it answers. Conditions: as each contract names them. Written by wip/tools/myprint.py, a driver of the print of the kit. -/
import Derived.Test.YtkhbmgnjopkeaaaP0
import Derived.Test.YtkhbmgnjopkeaaaP1
import Derived.Test.YtkhbmgnjopkeaaaP2
import Derived.Test.YtkhbmgnjopkeaaaP3
import Derived.Test.YtkhbmgnjopkeaaaP4
import Derived.Test.YtkhbmgnjopkeaaaP5
import Derived.Test.YtkhbmgnjopkeaaaP6
namespace Go.Proofs.Ytkhbmgnjopkeaaa.P
open Go.RowKit Go.Proofs.YtkhbmgnjopkeaaaW.PrintWords Go.Proofs.YtkhbmgnjopkeaaaW.PrintLast Go.Proofs.YtkhbmgnjopkeaaaW.PrintMore
attribute [local go_sem] max2_int min2_int max_two min_two max_three min_three max_four min_four Go.Proofs.YtkhbmgnjopkeaaaLaws.str_leq Go.Proofs.YtkhbmgnjopkeaaaLaws.str_gtr Go.Proofs.YtkhbmgnjopkeaaaLaws.str_geq Go.Proofs.YtkhbmgnjopkeaaaLaws.max2_str Go.Proofs.YtkhbmgnjopkeaaaLaws.min2_str   -- for this text's walks alone
set_option linter.unusedVariables false
set_option linter.unusedSimpArgs false

/-! ### withylaw08_SlotTells: function 3 -/
def withylaw08_SlotTells.f (k : Nat) (a0 : Int) (a1_0 : ByteArray) (l1_1 : List ByteArray) (a2_0 : ByteArray) (a2_1 : Int) (a2_2 : Int) : Option (Bool) := if 0 ≤ (mn (a1_0.size : Int) 60) then (if (mn (a1_0.size : Int) 60) ≤ (a1_0.size : Int) then ((withylaw05_Cut.f k l1_1).bind fun t195 => (if 0 ≤ (mn (a2_0.size : Int) 300) then (if (mn (a2_0.size : Int) 300) ≤ (a2_0.size : Int) then ((slot_Pack.f k (mn a0 2000) (a1_0.extract 0 ((mn (a1_0.size : Int) 60) : Int).toNat) t195).bind fun bt198 => ((withyref08_Pack.f k (mn a0 2000) (a1_0.extract 0 ((mn (a1_0.size : Int) 60) : Int).toNat) t195).bind fun bt200 => ((slot_Unpack.f k (a2_0.extract 0 ((mn (a2_0.size : Int) 300) : Int).toNat) a2_1 a2_2).bind fun bt202 => ((withyref08_Unpack.f k (a2_0.extract 0 ((mn (a2_0.size : Int) 300) : Int).toNat) a2_1 a2_2).bind fun bt206 => ((slot_Size.f (a1_0.extract 0 ((mn (a1_0.size : Int) 60) : Int).toNat) t195).bind fun t210 => ((withyref08_Size.f k (a1_0.extract 0 ((mn (a1_0.size : Int) 60) : Int).toNat) t195).bind fun t211 => (if t210 = t211 then (if bt198.1.toList = bt200.1.toList then (if bt198.2 = bt200.2 then ((withyref01_Words.f k bt202.1 bt206.1).bind fun t212 => (if t212 = true then (if bt202.2 = bt206.2 then ((withylaw08_fixed.f k).bind fun t213 => (some t213)) else (none)) else (none))) else (none)) else (none)) else (none)))))))) else (none)) else (none))) else (none)) else (none)
theorem withylaw08_SlotTells.mono : ∀ a0 a1 a2 a3 a4 a5 k, LeO (withylaw08_SlotTells.f k a0 a1 a2 a3 a4 a5) (withylaw08_SlotTells.f (k + 1) a0 a1 a2 a3 a4 a5) := by
  intro a0 a1 a2 a3 a4 a5 k
  unfold withylaw08_SlotTells.f
  repeat' first
      | (with_reducible exact slot_Pack.mono _ _ _ _)
      | (with_reducible exact slot_Unpack.mono _ _ _ _)
      | (with_reducible exact withylaw05_Cut.mono _ _)
      | (with_reducible exact withylaw08_fixed.mono _)
      | (with_reducible exact withyref01_Words.mono _ _ _)
      | (with_reducible exact withyref08_Pack.mono _ _ _ _)
      | (with_reducible exact withyref08_Size.mono _ _ _)
      | (with_reducible exact withyref08_Unpack.mono _ _ _ _)
      | (with_reducible exact LeO.refl _)
      | (with_reducible exact LeO.none _)
      | (with_reducible refine LeO.ite ?_ ?_)
      | (with_reducible refine LeO.bind ?_ (fun _ => ?_))
      | exact slot_Pack.mono _ _ _ _
      | exact slot_Unpack.mono _ _ _ _
      | exact withylaw05_Cut.mono _ _
      | exact withylaw08_fixed.mono _
      | exact withyref01_Words.mono _ _ _
      | exact withyref08_Pack.mono _ _ _ _
      | exact withyref08_Size.mono _ _ _
      | exact withyref08_Unpack.mono _ _ _ _
      | exact LeO.none _
      | refine LeO.ite ?_ ?_
      | refine LeO.bind ?_ (fun _ => ?_)
set_option maxHeartbeats 8000000 in
set_option maxRecDepth 100000 in
theorem withylaw08_SlotTells.calls (k : Nat) (a0 : Int) (a1_0 : ByteArray) (A1_1 : Option Addr) (c1_1 : Nat) (l1_1 : List ByteArray) (a2_0 : ByteArray) (a2_1 : Int) (a2_2 : Int) (r : Bool) (w : World) (hr1_1 : Kd.C Kd.string w A1_1 l1_1.length l1_1) (hc1_1 : l1_1.length ≤ c1_1) (h : withylaw08_SlotTells.f k a0 a1_0 l1_1 a2_0 a2_1 a2_2 = some r) :
    Calls Try.prog 3 #[.int .i64 a0, .agg #[.string a1_0, .slice A1_1 l1_1.length c1_1], .agg #[.string a2_0, .int .i64 a2_1, .int .i64 a2_2]] w fun e w' => e = .returned (.bool r) ∧ Below w.heap.size w w' := by
  have hu24 := Try.underlying24
  have hu26 := Try.underlying26
  have HR1_1 := Aside0.mk hr1_1
  have HC1_1 := Aside0.mk hc1_1
  clear hr1_1 hc1_1
  have HB := Aside0.mk (Below.refl w.heap.size w)
  have H : (if 0 ≤ (mn (a1_0.size : Int) 60) then (if (mn (a1_0.size : Int) 60) ≤ (a1_0.size : Int) then ((withylaw05_Cut.f k l1_1).bind fun t195 => (if 0 ≤ (mn (a2_0.size : Int) 300) then (if (mn (a2_0.size : Int) 300) ≤ (a2_0.size : Int) then ((slot_Pack.f k (mn a0 2000) (a1_0.extract 0 ((mn (a1_0.size : Int) 60) : Int).toNat) t195).bind fun bt198 => ((withyref08_Pack.f k (mn a0 2000) (a1_0.extract 0 ((mn (a1_0.size : Int) 60) : Int).toNat) t195).bind fun bt200 => ((slot_Unpack.f k (a2_0.extract 0 ((mn (a2_0.size : Int) 300) : Int).toNat) a2_1 a2_2).bind fun bt202 => ((withyref08_Unpack.f k (a2_0.extract 0 ((mn (a2_0.size : Int) 300) : Int).toNat) a2_1 a2_2).bind fun bt206 => ((slot_Size.f (a1_0.extract 0 ((mn (a1_0.size : Int) 60) : Int).toNat) t195).bind fun t210 => ((withyref08_Size.f k (a1_0.extract 0 ((mn (a1_0.size : Int) 60) : Int).toNat) t195).bind fun t211 => (if t210 = t211 then (if bt198.1.toList = bt200.1.toList then (if bt198.2 = bt200.2 then ((withyref01_Words.f k bt202.1 bt206.1).bind fun t212 => (if t212 = true then (if bt202.2 = bt206.2 then ((withylaw08_fixed.f k).bind fun t213 => (some t213)) else (none)) else (none))) else (none)) else (none)) else (none)))))))) else (none)) else (none))) else (none)) else (none)) = some r := h
  clear h
  obtain ⟨ji4, hji4⟩ : ∃ j_ : Int, (mn a0 2000) = j_ := ⟨_, rfl⟩
  replace H : (if 0 ≤ (mn (a1_0.size : Int) 60) then (if (mn (a1_0.size : Int) 60) ≤ (a1_0.size : Int) then ((withylaw05_Cut.f k l1_1).bind fun t195 => (if 0 ≤ (mn (a2_0.size : Int) 300) then (if (mn (a2_0.size : Int) 300) ≤ (a2_0.size : Int) then ((slot_Pack.f k (ji4) (a1_0.extract 0 ((mn (a1_0.size : Int) 60) : Int).toNat) t195).bind fun bt198 => ((withyref08_Pack.f k (ji4) (a1_0.extract 0 ((mn (a1_0.size : Int) 60) : Int).toNat) t195).bind fun bt200 => ((slot_Unpack.f k (a2_0.extract 0 ((mn (a2_0.size : Int) 300) : Int).toNat) a2_1 a2_2).bind fun bt202 => ((withyref08_Unpack.f k (a2_0.extract 0 ((mn (a2_0.size : Int) 300) : Int).toNat) a2_1 a2_2).bind fun bt206 => ((slot_Size.f (a1_0.extract 0 ((mn (a1_0.size : Int) 60) : Int).toNat) t195).bind fun t210 => ((withyref08_Size.f k (a1_0.extract 0 ((mn (a1_0.size : Int) 60) : Int).toNat) t195).bind fun t211 => (if t210 = t211 then (if bt198.1.toList = bt200.1.toList then (if bt198.2 = bt200.2 then ((withyref01_Words.f k bt202.1 bt206.1).bind fun t212 => (if t212 = true then (if bt202.2 = bt206.2 then ((withylaw08_fixed.f k).bind fun t213 => (some t213)) else (none)) else (none))) else (none)) else (none)) else (none)))))))) else (none)) else (none))) else (none)) else (none)) = some r := by first | (rw [hji4] at H; exact H) | (simp only [hji4] at H ⊢; exact H)
  (try (have hji4h : ji4 ≤ 2000 := by (rw [← hji4]; unfold mn; (repeat' split) <;> omega)))
  (try (have hji4g : ji4 ≤ 64 := by omega))
  have hji4_ : (if 2000 < a0 then 2000 else a0) = ji4 := hji4
  obtain ⟨ji5, hji5⟩ : ∃ j_ : Int, (mn (a1_0.size : Int) 60) = j_ := ⟨_, rfl⟩
  replace H : (if 0 ≤ (ji5) then (if (ji5) ≤ (a1_0.size : Int) then ((withylaw05_Cut.f k l1_1).bind fun t195 => (if 0 ≤ (mn (a2_0.size : Int) 300) then (if (mn (a2_0.size : Int) 300) ≤ (a2_0.size : Int) then ((slot_Pack.f k (ji4) (a1_0.extract 0 ((ji5) : Int).toNat) t195).bind fun bt198 => ((withyref08_Pack.f k (ji4) (a1_0.extract 0 ((ji5) : Int).toNat) t195).bind fun bt200 => ((slot_Unpack.f k (a2_0.extract 0 ((mn (a2_0.size : Int) 300) : Int).toNat) a2_1 a2_2).bind fun bt202 => ((withyref08_Unpack.f k (a2_0.extract 0 ((mn (a2_0.size : Int) 300) : Int).toNat) a2_1 a2_2).bind fun bt206 => ((slot_Size.f (a1_0.extract 0 ((ji5) : Int).toNat) t195).bind fun t210 => ((withyref08_Size.f k (a1_0.extract 0 ((ji5) : Int).toNat) t195).bind fun t211 => (if t210 = t211 then (if bt198.1.toList = bt200.1.toList then (if bt198.2 = bt200.2 then ((withyref01_Words.f k bt202.1 bt206.1).bind fun t212 => (if t212 = true then (if bt202.2 = bt206.2 then ((withylaw08_fixed.f k).bind fun t213 => (some t213)) else (none)) else (none))) else (none)) else (none)) else (none)))))))) else (none)) else (none))) else (none)) else (none)) = some r := by first | (rw [hji5] at H; exact H) | (simp only [hji5] at H ⊢; exact H)
  (try (have hji5h : ji5 ≤ 60 := by (rw [← hji5]; unfold mn; (repeat' split) <;> omega)))
  (try (have hji5g : ji5 ≤ 64 := by omega))
  (try (have hji5l : 0 ≤ ji5 := by (rw [← hji5]; unfold mn; (repeat' split) <;> omega)))
  (try (have hji5m : 0 ≤ ji5 := by omega))
  have hji5_ : (if 60 < (a1_0.size : Int) then 60 else (a1_0.size : Int)) = ji5 := hji5
  by_cases c6 : 0 ≤ (ji5)
  · rw [if_pos c6] at H
    have c6b0 := eq_true c6
    have c6b1 : decide (0 ≤ (ji5)) = true := decide_eq_true c6
    clear c6
    by_cases c7 : (ji5) ≤ (a1_0.size : Int)
    · rw [if_pos c7] at H
      have c7b0 := eq_true c7
      have c7b1 : decide ((ji5) ≤ (a1_0.size : Int)) = true := decide_eq_true c7
      clear c7
      obtain ⟨js8, hjs8⟩ : ∃ j_ : ByteArray, (a1_0.extract 0 ((ji5) : Int).toNat) = j_ := ⟨_, rfl⟩
      replace H : ((withylaw05_Cut.f k l1_1).bind fun t195 => (if 0 ≤ (mn (a2_0.size : Int) 300) then (if (mn (a2_0.size : Int) 300) ≤ (a2_0.size : Int) then ((slot_Pack.f k (ji4) (js8) t195).bind fun bt198 => ((withyref08_Pack.f k (ji4) (js8) t195).bind fun bt200 => ((slot_Unpack.f k (a2_0.extract 0 ((mn (a2_0.size : Int) 300) : Int).toNat) a2_1 a2_2).bind fun bt202 => ((withyref08_Unpack.f k (a2_0.extract 0 ((mn (a2_0.size : Int) 300) : Int).toNat) a2_1 a2_2).bind fun bt206 => ((slot_Size.f (js8) t195).bind fun t210 => ((withyref08_Size.f k (js8) t195).bind fun t211 => (if t210 = t211 then (if bt198.1.toList = bt200.1.toList then (if bt198.2 = bt200.2 then ((withyref01_Words.f k bt202.1 bt206.1).bind fun t212 => (if t212 = true then (if bt202.2 = bt206.2 then ((withylaw08_fixed.f k).bind fun t213 => (some t213)) else (none)) else (none))) else (none)) else (none)) else (none)))))))) else (none)) else (none))) = some r := by first | (rw [hjs8] at H; exact H) | (simp only [hjs8] at H ⊢; exact H)
      replace H := Option.bind_eq_some_iff.mp H
      obtain ⟨t195, A90, H⟩ := H
      replace H : (if 0 ≤ (mn (a2_0.size : Int) 300) then (if (mn (a2_0.size : Int) 300) ≤ (a2_0.size : Int) then ((slot_Pack.f k (ji4) (js8) t195).bind fun bt198 => ((withyref08_Pack.f k (ji4) (js8) t195).bind fun bt200 => ((slot_Unpack.f k (a2_0.extract 0 ((mn (a2_0.size : Int) 300) : Int).toNat) a2_1 a2_2).bind fun bt202 => ((withyref08_Unpack.f k (a2_0.extract 0 ((mn (a2_0.size : Int) 300) : Int).toNat) a2_1 a2_2).bind fun bt206 => ((slot_Size.f (js8) t195).bind fun t210 => ((withyref08_Size.f k (js8) t195).bind fun t211 => (if t210 = t211 then (if bt198.1.toList = bt200.1.toList then (if bt198.2 = bt200.2 then ((withyref01_Words.f k bt202.1 bt206.1).bind fun t212 => (if t212 = true then (if bt202.2 = bt206.2 then ((withylaw08_fixed.f k).bind fun t213 => (some t213)) else (none)) else (none))) else (none)) else (none)) else (none)))))))) else (none)) else (none)) = some r := H
      have A9 := Aside0.mk A90
      clear A90
      obtain ⟨ji10, hji10⟩ : ∃ j_ : Int, (mn (a2_0.size : Int) 300) = j_ := ⟨_, rfl⟩
      replace H : (if 0 ≤ (ji10) then (if (ji10) ≤ (a2_0.size : Int) then ((slot_Pack.f k (ji4) (js8) t195).bind fun bt198 => ((withyref08_Pack.f k (ji4) (js8) t195).bind fun bt200 => ((slot_Unpack.f k (a2_0.extract 0 ((ji10) : Int).toNat) a2_1 a2_2).bind fun bt202 => ((withyref08_Unpack.f k (a2_0.extract 0 ((ji10) : Int).toNat) a2_1 a2_2).bind fun bt206 => ((slot_Size.f (js8) t195).bind fun t210 => ((withyref08_Size.f k (js8) t195).bind fun t211 => (if t210 = t211 then (if bt198.1.toList = bt200.1.toList then (if bt198.2 = bt200.2 then ((withyref01_Words.f k bt202.1 bt206.1).bind fun t212 => (if t212 = true then (if bt202.2 = bt206.2 then ((withylaw08_fixed.f k).bind fun t213 => (some t213)) else (none)) else (none))) else (none)) else (none)) else (none)))))))) else (none)) else (none)) = some r := by first | (rw [hji10] at H; exact H) | (simp only [hji10] at H ⊢; exact H)
      (try rw [hji10] at A9)
      (try (have hji10h : ji10 ≤ 300 := by (rw [← hji10]; unfold mn; (repeat' split) <;> omega)))
      (try (have hji10g : ji10 ≤ 64 := by omega))
      (try (have hji10l : 0 ≤ ji10 := by (rw [← hji10]; unfold mn; (repeat' split) <;> omega)))
      (try (have hji10m : 0 ≤ ji10 := by omega))
      have hji10_ : (if 300 < (a2_0.size : Int) then 300 else (a2_0.size : Int)) = ji10 := hji10
      by_cases c11 : 0 ≤ (ji10)
      · rw [if_pos c11] at H
        have c11b0 := eq_true c11
        have c11b1 : decide (0 ≤ (ji10)) = true := decide_eq_true c11
        clear c11
        by_cases c12 : (ji10) ≤ (a2_0.size : Int)
        · rw [if_pos c12] at H
          have c12b0 := eq_true c12
          have c12b1 : decide ((ji10) ≤ (a2_0.size : Int)) = true := decide_eq_true c12
          clear c12
          obtain ⟨js13, hjs13⟩ : ∃ j_ : ByteArray, (a2_0.extract 0 ((ji10) : Int).toNat) = j_ := ⟨_, rfl⟩
          replace H : ((slot_Pack.f k (ji4) (js8) t195).bind fun bt198 => ((withyref08_Pack.f k (ji4) (js8) t195).bind fun bt200 => ((slot_Unpack.f k (js13) a2_1 a2_2).bind fun bt202 => ((withyref08_Unpack.f k (js13) a2_1 a2_2).bind fun bt206 => ((slot_Size.f (js8) t195).bind fun t210 => ((withyref08_Size.f k (js8) t195).bind fun t211 => (if t210 = t211 then (if bt198.1.toList = bt200.1.toList then (if bt198.2 = bt200.2 then ((withyref01_Words.f k bt202.1 bt206.1).bind fun t212 => (if t212 = true then (if bt202.2 = bt206.2 then ((withylaw08_fixed.f k).bind fun t213 => (some t213)) else (none)) else (none))) else (none)) else (none)) else (none)))))))) = some r := by first | (rw [hjs13] at H; exact H) | (simp only [hjs13] at H ⊢; exact H)
          (try rw [hjs13] at A9)
          replace H := Option.bind_eq_some_iff.mp H
          obtain ⟨⟨t198, t199⟩, A140, H⟩ := H
          replace H : ((withyref08_Pack.f k (ji4) (js8) t195).bind fun bt200 => ((slot_Unpack.f k (js13) a2_1 a2_2).bind fun bt202 => ((withyref08_Unpack.f k (js13) a2_1 a2_2).bind fun bt206 => ((slot_Size.f (js8) t195).bind fun t210 => ((withyref08_Size.f k (js8) t195).bind fun t211 => (if t210 = t211 then (if t198.toList = bt200.1.toList then (if t199 = bt200.2 then ((withyref01_Words.f k bt202.1 bt206.1).bind fun t212 => (if t212 = true then (if bt202.2 = bt206.2 then ((withylaw08_fixed.f k).bind fun t213 => (some t213)) else (none)) else (none))) else (none)) else (none)) else (none))))))) = some r := H
          have A14 := Aside0.mk A140
          clear A140
          replace H := Option.bind_eq_some_iff.mp H
          obtain ⟨⟨t200, t201⟩, A150, H⟩ := H
          replace H : ((slot_Unpack.f k (js13) a2_1 a2_2).bind fun bt202 => ((withyref08_Unpack.f k (js13) a2_1 a2_2).bind fun bt206 => ((slot_Size.f (js8) t195).bind fun t210 => ((withyref08_Size.f k (js8) t195).bind fun t211 => (if t210 = t211 then (if t198.toList = t200.toList then (if t199 = t201 then ((withyref01_Words.f k bt202.1 bt206.1).bind fun t212 => (if t212 = true then (if bt202.2 = bt206.2 then ((withylaw08_fixed.f k).bind fun t213 => (some t213)) else (none)) else (none))) else (none)) else (none)) else (none)))))) = some r := H
          have A15 := Aside0.mk A150
          clear A150
          replace H := Option.bind_eq_some_iff.mp H
          obtain ⟨⟨t202, t203⟩, A160, H⟩ := H
          replace H : ((withyref08_Unpack.f k (js13) a2_1 a2_2).bind fun bt206 => ((slot_Size.f (js8) t195).bind fun t210 => ((withyref08_Size.f k (js8) t195).bind fun t211 => (if t210 = t211 then (if t198.toList = t200.toList then (if t199 = t201 then ((withyref01_Words.f k t202 bt206.1).bind fun t212 => (if t212 = true then (if t203 = bt206.2 then ((withylaw08_fixed.f k).bind fun t213 => (some t213)) else (none)) else (none))) else (none)) else (none)) else (none))))) = some r := H
          have A16 := Aside0.mk A160
          clear A160
          replace H := Option.bind_eq_some_iff.mp H
          obtain ⟨⟨t206, t207⟩, A170, H⟩ := H
          replace H : ((slot_Size.f (js8) t195).bind fun t210 => ((withyref08_Size.f k (js8) t195).bind fun t211 => (if t210 = t211 then (if t198.toList = t200.toList then (if t199 = t201 then ((withyref01_Words.f k t202 t206).bind fun t212 => (if t212 = true then (if t203 = t207 then ((withylaw08_fixed.f k).bind fun t213 => (some t213)) else (none)) else (none))) else (none)) else (none)) else (none)))) = some r := H
          have A17 := Aside0.mk A170
          clear A170
          replace H := Option.bind_eq_some_iff.mp H
          obtain ⟨t210, A180, H⟩ := H
          replace H : ((withyref08_Size.f k (js8) t195).bind fun t211 => (if t210 = t211 then (if t198.toList = t200.toList then (if t199 = t201 then ((withyref01_Words.f k t202 t206).bind fun t212 => (if t212 = true then (if t203 = t207 then ((withylaw08_fixed.f k).bind fun t213 => (some t213)) else (none)) else (none))) else (none)) else (none)) else (none))) = some r := H
          have A18 := Aside0.mk A180
          clear A180
          replace H := Option.bind_eq_some_iff.mp H
          obtain ⟨t211, A190, H⟩ := H
          replace H : (if t210 = t211 then (if t198.toList = t200.toList then (if t199 = t201 then ((withyref01_Words.f k t202 t206).bind fun t212 => (if t212 = true then (if t203 = t207 then ((withylaw08_fixed.f k).bind fun t213 => (some t213)) else (none)) else (none))) else (none)) else (none)) else (none)) = some r := H
          have A19 := Aside0.mk A190
          clear A190
          by_cases c20 : t210 = t211
          · rw [if_pos c20] at H
            have c20b0 : (t210 == t211) = true := beq_iff_eq.mpr c20
            have c20b1 : (t210 != t211) = false := bne_eq_false_iff_eq.mpr c20
            clear c20
            by_cases c21 : t198.toList = t200.toList
            · rw [if_pos c21] at H
              have c21b0 : (t198.toList == t200.toList) = true := beq_iff_eq.mpr c21
              have c21b1 : (t198.toList != t200.toList) = false := bne_eq_false_iff_eq.mpr c21
              clear c21
              by_cases c22 : t199 = t201
              · rw [if_pos c22] at H
                have c22b0 : (t199 == t201) = true := beq_iff_eq.mpr c22
                have c22b1 : (t199 != t201) = false := bne_eq_false_iff_eq.mpr c22
                clear c22
                replace H := Option.bind_eq_some_iff.mp H
                obtain ⟨t212, A230, H⟩ := H
                replace H : (if t212 = true then (if t203 = t207 then ((withylaw08_fixed.f k).bind fun t213 => (some t213)) else (none)) else (none)) = some r := H
                have A23 := Aside0.mk A230
                clear A230
                by_cases c24 : t212 = true
                · subst c24
                  have H1 : (if t203 = t207 then ((withylaw08_fixed.f k).bind fun t213 => (some t213)) else (none)) = some r := by rw [if_pos rfl] at H; exact H
                  clear H
                  have H := H1
                  clear H1
                  by_cases c25 : t203 = t207
                  · rw [if_pos c25] at H
                    have c25b0 : (t203 == t207) = true := beq_iff_eq.mpr c25
                    have c25b1 : (t203 != t207) = false := bne_eq_false_iff_eq.mpr c25
                    clear c25
                    replace H := Option.bind_eq_some_iff.mp H
                    obtain ⟨t213, A260, H⟩ := H
                    replace H : (some t213) = some r := H
                    have A26 := Aside0.mk A260
                    clear A260
                    obtain rfl := Option.some.inj H
                    go_enter Try.func3, Try.ntmps3
                    go_wp2_with (first | ((with_reducible refine gate_dst (N := 4) rfl ?_); refine box_event ?hg (N := 4) ?hd (cs := #[.string a1_0, .slice A1_1 l1_1.length c1_1]) (t := 24) ?hr ?_; (case hd => rfl); (case hg => rfl); (case hr => first | (go_simp; done) | (go_simp; rfl)); intro gb193 hg w27 hbox hb; have n0_ := Aside0.mk (below_step (by repeat (first | (with_reducible first | exact HB.out | apply below_alloc | apply pw_below_drewN | apply below_drew1) | exact HB.out)) hb); have n1_ := Aside0.mk (hbox); have n2_ := Aside0.mk ((by rw [hg]; exact (below_size (by repeat (first | (with_reducible first | exact HB.out | apply below_alloc | apply pw_below_drewN | apply below_drew1) | exact HB.out))) : w.heap.size ≤ gb193)); have n3_ := Aside0.mk ((by rw [hg]; exact (below_size (by repeat (first | (with_reducible first | exact HB.out | apply below_alloc | apply pw_below_drewN | apply below_drew1) | exact HB.out))) : w.heap.size ≤ gb193)); clear HB; have HB := n0_; have BK193 := n1_; have GW193 := n2_; have GE193 := n3_; clear n0_ n1_ n2_ n3_; clear hb hbox hg) | ((with_reducible refine gate_dst (N := 5) rfl ?_); refine box_event ?hg (N := 5) ?hd (cs := #[.string a2_0, .int .i64 a2_1, .int .i64 a2_2]) (t := 26) ?hr ?_; (case hd => rfl); (case hg => rfl); (case hr => first | (go_simp; done) | (go_simp; rfl)); intro gb194 hg w28 hbox hb; have n0_ := Aside0.mk (blk_below (g := gb193) (o := .cells #[.string a1_0, .slice A1_1 l1_1.length c1_1] 24 (0, 0)) (by (with_reducible repeat (first | refine blk_drewN ?_ _ | refine blk_drew ?_ | refine blk_alloc ?_ _)); exact BK193.out) hb); have n1_ := Aside0.mk (below_step (by repeat (first | (with_reducible first | exact HB.out | apply below_alloc | apply pw_below_drewN | apply below_drew1 | refine below_set ?_ GE193.out) | exact HB.out)) hb); have n2_ := Aside0.mk (hbox); have n3_ := Aside0.mk ((by rw [hg]; exact (below_size (by repeat (first | (with_reducible first | exact HB.out | apply below_alloc | apply pw_below_drewN | apply below_drew1 | refine below_set ?_ GE193.out) | exact HB.out))) : w.heap.size ≤ gb194)); have n4_ := Aside0.mk ((by rw [hg]; exact (below_size (by repeat (first | (with_reducible first | exact HB.out | apply below_alloc | apply pw_below_drewN | apply below_drew1 | refine below_set ?_ GE193.out) | exact HB.out))) : w.heap.size ≤ gb194)); have n5_ := Aside0.mk ((by rw [hg]; exact Nat.ne_of_lt (blk_lt (g := gb193) (o := .cells #[.string a1_0, .slice A1_1 l1_1.length c1_1] 24 (0, 0)) (by (with_reducible repeat (first | refine blk_drewN ?_ _ | refine blk_drew ?_ | refine blk_alloc ?_ _)); exact BK193.out)) : gb193 ≠ gb194)); have n6_ := Aside0.mk ((by rw [hg]; exact Nat.ne_of_gt (blk_lt (g := gb193) (o := .cells #[.string a1_0, .slice A1_1 l1_1.length c1_1] 24 (0, 0)) (by (with_reducible repeat (first | refine blk_drewN ?_ _ | refine blk_drew ?_ | refine blk_alloc ?_ _)); exact BK193.out)) : gb194 ≠ gb193)); clear BK193; clear HB; have BK193 := n0_; have HB := n1_; have BK194 := n2_; have GW194 := n3_; have GE194 := n4_; have NB193_194 := n5_; have NB194_193 := n6_; clear n0_ n1_ n2_ n3_ n4_ n5_ n6_; clear hb hbox hg; have hnb29 := NB193_194.out; have hnc29 := NB194_193.out; have hcz30_0 : w28.cell? ⟨gb193, 0, none⟩ = some (.string a1_0) := (blk_cell BK193.out 0).trans rfl; have hcz30_1 : w28.cell? ⟨gb193, 1, none⟩ = some (.slice A1_1 l1_1.length c1_1) := (blk_cell BK193.out 1).trans rfl; have hfz30_0 := blk_frozen BK193.out 0; have hfz30_1 := blk_frozen BK193.out 1) | ((with_reducible refine gate_callee (f := 8) rfl ?_); refine goesL_ (some 29) rfl rfl Try.func8 (by kernel_rfl) rfl #[.slice A1_1 l1_1.length c1_1] rfl (by (try simp only [List.map_toArray, List.map_cons, List.map_nil]); first | done | rfl | (simp only [List.length_drop, List.length_take]; rfl)) ?_; (with_reducible refine (withylaw05_Cut.calls k _ _ l1_1 t195 _ ?side1 ?side2 A9.out).mono ?_); (case side1 => repeat (first | exact (Kd.C_below HR1_1.out HB.out) | (with_reducible refine Kd.C_alloc ?_ _) | (with_reducible refine Kd.C_drewN ?_ _) | (with_reducible refine Kd.C_drew ?_))); (case side2 => exact HC1_1.out); rintro e w31 ⟨v196, rfl, ho0, hb⟩; refine ⟨_, rfl, ?_⟩; have n0_ := Aside0.mk (Kd.R_lower ho0 (below_size (by repeat (first | (with_reducible first | exact HB.out | apply below_alloc | apply pw_below_drewN | apply below_drew1 | refine below_set ?_ GE193.out | refine below_set ?_ GE194.out) | exact HB.out)))); have n1_ := Aside0.mk (blk_below (g := gb193) (o := .cells #[.string a1_0, .slice A1_1 l1_1.length c1_1] 24 (0, 0)) (by (with_reducible repeat (first | refine blk_drewN ?_ _ | refine blk_drew ?_ | refine blk_alloc ?_ _)); exact BK193.out) hb); have n2_ := Aside0.mk (blk_below (g := gb194) (o := .cells #[.string a2_0, .int .i64 a2_1, .int .i64 a2_2] 26 (0, 0)) (by (with_reducible repeat (first | refine blk_drewN ?_ _ | refine blk_drew ?_ | refine blk_alloc ?_ _)); exact BK194.out) hb); have n3_ := Aside0.mk (below_step (by repeat (first | (with_reducible first | exact HB.out | apply below_alloc | apply pw_below_drewN | apply below_drew1 | refine below_set ?_ GE193.out | refine below_set ?_ GE194.out) | exact HB.out)) hb); clear BK193; clear BK194; clear HB; have HO197 := n0_; have BK193 := n1_; have BK194 := n2_; have HB := n3_; clear n0_ n1_ n2_ n3_; (try clear hb); (try clear hb2); (try clear hk); (try clear hi); (try clear ho0); have hcz32_0 : w31.cell? ⟨gb194, 0, none⟩ = some (.string a2_0) := (blk_cell BK194.out 0).trans rfl; have hcz32_1 : w31.cell? ⟨gb194, 1, none⟩ = some (.int .i64 a2_1) := (blk_cell BK194.out 1).trans rfl; have hcz32_2 : w31.cell? ⟨gb194, 2, none⟩ = some (.int .i64 a2_2) := (blk_cell BK194.out 2).trans rfl; have hfz32_0 := blk_frozen BK194.out 0; have hfz32_1 := blk_frozen BK194.out 1; have hfz32_2 := blk_frozen BK194.out 2; obtain ⟨Ao33, co33, eo33⟩ := Kd.R_slice HO197.out; subst eo33) | ((with_reducible refine gate_callee (f := 9) rfl ?_); refine goesL_ (some 41) rfl rfl Try.func9 (by kernel_rfl) rfl #[.int .i64 ji4, .string js8, .slice Ao33 t195.length co33] rfl (by (try simp only [List.map_toArray, List.map_cons, List.map_nil]); first | done | (simp only [hji4]; rfl) | rfl | (simp only [List.length_drop, List.length_take]; rfl)) ?_; (with_reducible refine (slot_Pack.calls k ji4 js8 _ _ t195 t198 t199 _ ?side1 ?side2 A14.out).mono ?_); (case side1 => repeat (first | exact (Kd.R_reads' HO197.out).2.2 | (with_reducible refine Kd.C_alloc ?_ _) | (with_reducible refine Kd.C_drewN ?_ _) | (with_reducible refine Kd.C_drew ?_))); (case side2 => exact (Kd.R_reads' HO197.out).2.1); rintro e w34 ⟨rfl, hb⟩; refine ⟨_, rfl, ?_⟩; have n0_ := Aside0.mk (Kd.R_below (by (with_reducible repeat (first | apply Kd.R_alloc | apply Kd.R_drewN | apply Kd.R_drew)); exact HO197.out) hb); have n1_ := Aside0.mk (blk_below (g := gb193) (o := .cells #[.string a1_0, .slice A1_1 l1_1.length c1_1] 24 (0, 0)) (by (with_reducible repeat (first | refine blk_drewN ?_ _ | refine blk_drew ?_ | refine blk_alloc ?_ _)); exact BK193.out) hb); have n2_ := Aside0.mk (blk_below (g := gb194) (o := .cells #[.string a2_0, .int .i64 a2_1, .int .i64 a2_2] 26 (0, 0)) (by (with_reducible repeat (first | refine blk_drewN ?_ _ | refine blk_drew ?_ | refine blk_alloc ?_ _)); exact BK194.out) hb); have n3_ := Aside0.mk (below_step (by repeat (first | (with_reducible first | exact HB.out | apply below_alloc | apply pw_below_drewN | apply below_drew1 | refine below_set ?_ GE193.out | refine below_set ?_ GE194.out) | exact HB.out)) hb); clear HO197; clear BK193; clear BK194; clear HB; have HO197 := n0_; have BK193 := n1_; have BK194 := n2_; have HB := n3_; clear n0_ n1_ n2_ n3_; (try clear hb); (try clear hb2); (try clear hk); (try clear hi)) | ((with_reducible refine gate_callee (f := 10) rfl ?_); refine goesL_ (some 48) rfl rfl Try.func10 (by kernel_rfl) rfl #[.int .i64 ji4, .string js8, .slice Ao33 t195.length co33] rfl (by (try simp only [List.map_toArray, List.map_cons, List.map_nil]); first | done | (simp only [hji4]; rfl) | rfl | (simp only [List.length_drop, List.length_take]; rfl)) ?_; (with_reducible refine (withyref08_Pack.calls k ji4 js8 _ _ t195 t200 t201 _ ?side1 ?side2 A15.out).mono ?_); (case side1 => repeat (first | exact (Kd.R_reads' HO197.out).2.2 | (with_reducible refine Kd.C_alloc ?_ _) | (with_reducible refine Kd.C_drewN ?_ _) | (with_reducible refine Kd.C_drew ?_))); (case side2 => exact (Kd.R_reads' HO197.out).2.1); rintro e w35 ⟨rfl, hb⟩; refine ⟨_, rfl, ?_⟩; have n0_ := Aside0.mk (Kd.R_below (by (with_reducible repeat (first | apply Kd.R_alloc | apply Kd.R_drewN | apply Kd.R_drew)); exact HO197.out) hb); have n1_ := Aside0.mk (blk_below (g := gb193) (o := .cells #[.string a1_0, .slice A1_1 l1_1.length c1_1] 24 (0, 0)) (by (with_reducible repeat (first | refine blk_drewN ?_ _ | refine blk_drew ?_ | refine blk_alloc ?_ _)); exact BK193.out) hb); have n2_ := Aside0.mk (blk_below (g := gb194) (o := .cells #[.string a2_0, .int .i64 a2_1, .int .i64 a2_2] 26 (0, 0)) (by (with_reducible repeat (first | refine blk_drewN ?_ _ | refine blk_drew ?_ | refine blk_alloc ?_ _)); exact BK194.out) hb); have n3_ := Aside0.mk (below_step (by repeat (first | (with_reducible first | exact HB.out | apply below_alloc | apply pw_below_drewN | apply below_drew1 | refine below_set ?_ GE193.out | refine below_set ?_ GE194.out) | exact HB.out)) hb); clear HO197; clear BK193; clear BK194; clear HB; have HO197 := n0_; have BK193 := n1_; have BK194 := n2_; have HB := n3_; clear n0_ n1_ n2_ n3_; (try clear hb); (try clear hb2); (try clear hk); (try clear hi); have hcz36_0 : w35.cell? ⟨gb194, 0, none⟩ = some (.string a2_0) := (blk_cell BK194.out 0).trans rfl; have hcz36_1 : w35.cell? ⟨gb194, 1, none⟩ = some (.int .i64 a2_1) := (blk_cell BK194.out 1).trans rfl; have hcz36_2 : w35.cell? ⟨gb194, 2, none⟩ = some (.int .i64 a2_2) := (blk_cell BK194.out 2).trans rfl; have hfz36_0 := blk_frozen BK194.out 0; have hfz36_1 := blk_frozen BK194.out 1; have hfz36_2 := blk_frozen BK194.out 2) | ((with_reducible refine gate_callee (f := 11) rfl ?_); refine goesL_ (some 57) rfl rfl Try.func11 (by kernel_rfl) rfl #[.string js13, .int .i64 a2_1, .int .i64 a2_2] rfl (by (try simp only [List.map_toArray, List.map_cons, List.map_nil]); first | done | rfl | (simp only [List.length_drop, List.length_take]; rfl)) ?_; (with_reducible refine (slot_Unpack.calls k js13 a2_1 a2_2 t202 t203 _ A16.out).mono ?_); rintro e w37 ⟨v204, rfl, ho0, hb⟩; refine ⟨_, rfl, ?_⟩; have n0_ := Aside0.mk (Kd.R_elder' (by (with_reducible repeat (first | apply Kd.R_alloc | apply Kd.R_drewN | apply Kd.R_drew)); exact HO197.out) (Kd.R_base ho0) hb); have n1_ := Aside0.mk (Kd.R_lower (Kd.R_new' ho0 (Kd.R_lt (by (with_reducible repeat (first | apply Kd.R_alloc | apply Kd.R_drewN | apply Kd.R_drew)); exact HO197.out))) (below_size (by repeat (first | (with_reducible first | exact HB.out | apply below_alloc | apply pw_below_drewN | apply below_drew1 | refine below_set ?_ GE193.out | refine below_set ?_ GE194.out) | exact HB.out)))); have n2_ := Aside0.mk (blk_below (g := gb193) (o := .cells #[.string a1_0, .slice A1_1 l1_1.length c1_1] 24 (0, 0)) (by (with_reducible repeat (first | refine blk_drewN ?_ _ | refine blk_drew ?_ | refine blk_alloc ?_ _)); exact BK193.out) hb); have n3_ := Aside0.mk (blk_below (g := gb194) (o := .cells #[.string a2_0, .int .i64 a2_1, .int .i64 a2_2] 26 (0, 0)) (by (with_reducible repeat (first | refine blk_drewN ?_ _ | refine blk_drew ?_ | refine blk_alloc ?_ _)); exact BK194.out) hb); have n4_ := Aside0.mk (below_step (by repeat (first | (with_reducible first | exact HB.out | apply below_alloc | apply pw_below_drewN | apply below_drew1 | refine below_set ?_ GE193.out | refine below_set ?_ GE194.out) | exact HB.out)) hb); clear HO197; clear BK193; clear BK194; clear HB; have HO197 := n0_; have HO205 := n1_; have BK193 := n2_; have BK194 := n3_; have HB := n4_; clear n0_ n1_ n2_ n3_ n4_; (try clear hb); (try clear hb2); (try clear hk); (try clear hi); (try clear ho0); have hcz38_0 : w37.cell? ⟨gb194, 0, none⟩ = some (.string a2_0) := (blk_cell BK194.out 0).trans rfl; have hcz38_1 : w37.cell? ⟨gb194, 1, none⟩ = some (.int .i64 a2_1) := (blk_cell BK194.out 1).trans rfl; have hcz38_2 : w37.cell? ⟨gb194, 2, none⟩ = some (.int .i64 a2_2) := (blk_cell BK194.out 2).trans rfl; have hfz38_0 := blk_frozen BK194.out 0; have hfz38_1 := blk_frozen BK194.out 1; have hfz38_2 := blk_frozen BK194.out 2) | ((with_reducible refine gate_callee (f := 12) rfl ?_); refine goesL_ (some 66) rfl rfl Try.func12 (by kernel_rfl) rfl #[.string js13, .int .i64 a2_1, .int .i64 a2_2] rfl (by (try simp only [List.map_toArray, List.map_cons, List.map_nil]); first | done | rfl | (simp only [List.length_drop, List.length_take]; rfl)) ?_; (with_reducible refine (withyref08_Unpack.calls k js13 a2_1 a2_2 t206 t207 _ A17.out).mono ?_); rintro e w39 ⟨v208, rfl, ho0, hb⟩; refine ⟨_, rfl, ?_⟩; have n0_ := Aside0.mk (Kd.R_elder' (by (with_reducible repeat (first | apply Kd.R_alloc | apply Kd.R_drewN | apply Kd.R_drew)); exact HO197.out) (Kd.R_base ho0) hb); have n1_ := Aside0.mk (Kd.R_elder' (by (with_reducible repeat (first | apply Kd.R_alloc | apply Kd.R_drewN | apply Kd.R_drew)); exact HO205.out) (Kd.R_base ho0) hb); have n2_ := Aside0.mk (Kd.R_lower (Kd.R_new' (Kd.R_new' ho0 (Kd.R_lt (by (with_reducible repeat (first | apply Kd.R_alloc | apply Kd.R_drewN | apply Kd.R_drew)); exact HO197.out))) (Kd.R_lt (by (with_reducible repeat (first | apply Kd.R_alloc | apply Kd.R_drewN | apply Kd.R_drew)); exact HO205.out))) (below_size (by repeat (first | (with_reducible first | exact HB.out | apply below_alloc | apply pw_below_drewN | apply below_drew1 | refine below_set ?_ GE193.out | refine below_set ?_ GE194.out) | exact HB.out)))); have n3_ := Aside0.mk (blk_below (g := gb193) (o := .cells #[.string a1_0, .slice A1_1 l1_1.length c1_1] 24 (0, 0)) (by (with_reducible repeat (first | refine blk_drewN ?_ _ | refine blk_drew ?_ | refine blk_alloc ?_ _)); exact BK193.out) hb); have n4_ := Aside0.mk (blk_below (g := gb194) (o := .cells #[.string a2_0, .int .i64 a2_1, .int .i64 a2_2] 26 (0, 0)) (by (with_reducible repeat (first | refine blk_drewN ?_ _ | refine blk_drew ?_ | refine blk_alloc ?_ _)); exact BK194.out) hb); have n5_ := Aside0.mk (below_step (by repeat (first | (with_reducible first | exact HB.out | apply below_alloc | apply pw_below_drewN | apply below_drew1 | refine below_set ?_ GE193.out | refine below_set ?_ GE194.out) | exact HB.out)) hb); clear HO197; clear HO205; clear BK193; clear BK194; clear HB; have HO197 := n0_; have HO205 := n1_; have HO209 := n2_; have BK193 := n3_; have BK194 := n4_; have HB := n5_; clear n0_ n1_ n2_ n3_ n4_ n5_; (try clear hb); (try clear hb2); (try clear hk); (try clear hi); (try clear ho0)) | ((with_reducible refine gate_callee (f := 13) rfl ?_); refine goesL_ (some 71) rfl rfl Try.func13 (by kernel_rfl) rfl #[.string js8, .slice Ao33 t195.length co33] rfl (by (try simp only [List.map_toArray, List.map_cons, List.map_nil]); first | done | rfl | (simp only [List.length_drop, List.length_take]; rfl)) ?_; (with_reducible refine (slot_Size.calls js8 _ _ t195 t210 _ ?side1 ?side2 A18.out).mono ?_); (case side1 => repeat (first | exact (Kd.R_reads' HO197.out).2.2 | (with_reducible refine Kd.C_alloc ?_ _) | (with_reducible refine Kd.C_drewN ?_ _) | (with_reducible refine Kd.C_drew ?_))); (case side2 => exact (Kd.R_reads' HO197.out).2.1); rintro e w40 ⟨rfl, hb⟩; refine ⟨_, rfl, ?_⟩; have n0_ := Aside0.mk (Kd.R_below (by (with_reducible repeat (first | apply Kd.R_alloc | apply Kd.R_drewN | apply Kd.R_drew)); exact HO197.out) hb); have n1_ := Aside0.mk (Kd.R_below (by (with_reducible repeat (first | apply Kd.R_alloc | apply Kd.R_drewN | apply Kd.R_drew)); exact HO205.out) hb); have n2_ := Aside0.mk (Kd.R_below (by (with_reducible repeat (first | apply Kd.R_alloc | apply Kd.R_drewN | apply Kd.R_drew)); exact HO209.out) hb); have n3_ := Aside0.mk (blk_below (g := gb193) (o := .cells #[.string a1_0, .slice A1_1 l1_1.length c1_1] 24 (0, 0)) (by (with_reducible repeat (first | refine blk_drewN ?_ _ | refine blk_drew ?_ | refine blk_alloc ?_ _)); exact BK193.out) hb); have n4_ := Aside0.mk (blk_below (g := gb194) (o := .cells #[.string a2_0, .int .i64 a2_1, .int .i64 a2_2] 26 (0, 0)) (by (with_reducible repeat (first | refine blk_drewN ?_ _ | refine blk_drew ?_ | refine blk_alloc ?_ _)); exact BK194.out) hb); have n5_ := Aside0.mk (below_step (by repeat (first | (with_reducible first | exact HB.out | apply below_alloc | apply pw_below_drewN | apply below_drew1 | refine below_set ?_ GE193.out | refine below_set ?_ GE194.out) | exact HB.out)) hb); clear HO197; clear HO205; clear HO209; clear BK193; clear BK194; clear HB; have HO197 := n0_; have HO205 := n1_; have HO209 := n2_; have BK193 := n3_; have BK194 := n4_; have HB := n5_; clear n0_ n1_ n2_ n3_ n4_ n5_; (try clear hb); (try clear hb2); (try clear hk); (try clear hi)) | ((with_reducible refine gate_callee (f := 14) rfl ?_); refine goesL_ (some 74) rfl rfl Try.func14 (by kernel_rfl) rfl #[.string js8, .slice Ao33 t195.length co33] rfl (by (try simp only [List.map_toArray, List.map_cons, List.map_nil]); first | done | rfl | (simp only [List.length_drop, List.length_take]; rfl)) ?_; (with_reducible refine (withyref08_Size.calls k js8 _ _ t195 t211 _ ?side1 ?side2 A19.out).mono ?_); (case side1 => repeat (first | exact (Kd.R_reads' HO197.out).2.2 | (with_reducible refine Kd.C_alloc ?_ _) | (with_reducible refine Kd.C_drewN ?_ _) | (with_reducible refine Kd.C_drew ?_))); (case side2 => exact (Kd.R_reads' HO197.out).2.1); rintro e w' ⟨rfl, ⟨nd, rfl⟩⟩; refine ⟨_, rfl, ?_⟩; obtain ⟨Ao41, co41, eo41⟩ := Kd.R_slice HO205.out; subst eo41; obtain ⟨Ao42, co42, eo42⟩ := Kd.R_slice HO209.out; subst eo42) | (go_at_call 15; (with_reducible refine (withyref01_Words.calls k _ _ t202 _ _ t206 true _ ?side1 ?side2 ?side3 ?side4 A23.out).mono ?_); (case side1 => repeat (first | exact (Kd.R_reads' HO205.out).2.2 | (with_reducible refine Kd.C_alloc ?_ _) | (with_reducible refine Kd.C_drewN ?_ _) | (with_reducible refine Kd.C_drew ?_))); (case side2 => exact (Kd.R_reads' HO205.out).2.1); (case side3 => repeat (first | exact (Kd.R_reads' HO209.out).2.2 | (with_reducible refine Kd.C_alloc ?_ _) | (with_reducible refine Kd.C_drewN ?_ _) | (with_reducible refine Kd.C_drew ?_))); (case side4 => exact (Kd.R_reads' HO209.out).2.1); rintro e w' ⟨rfl, ⟨nd, rfl⟩⟩) | (go_at_call 16; (with_reducible refine (withylaw08_fixed.calls k  t213 _ A26.out).mono ?_); rintro e w43 ⟨rfl, hb⟩; have n0_ := Aside0.mk (Kd.R_below (by (with_reducible repeat (first | apply Kd.R_alloc | apply Kd.R_drewN | apply Kd.R_drew)); exact HO197.out) hb); have n1_ := Aside0.mk (Kd.R_below (by (with_reducible repeat (first | apply Kd.R_alloc | apply Kd.R_drewN | apply Kd.R_drew)); exact HO205.out) hb); have n2_ := Aside0.mk (Kd.R_below (by (with_reducible repeat (first | apply Kd.R_alloc | apply Kd.R_drewN | apply Kd.R_drew)); exact HO209.out) hb); have n3_ := Aside0.mk (blk_below (g := gb193) (o := .cells #[.string a1_0, .slice A1_1 l1_1.length c1_1] 24 (0, 0)) (by (with_reducible repeat (first | refine blk_drewN ?_ _ | refine blk_drew ?_ | refine blk_alloc ?_ _)); exact BK193.out) hb); have n4_ := Aside0.mk (blk_below (g := gb194) (o := .cells #[.string a2_0, .int .i64 a2_1, .int .i64 a2_2] 26 (0, 0)) (by (with_reducible repeat (first | refine blk_drewN ?_ _ | refine blk_drew ?_ | refine blk_alloc ?_ _)); exact BK194.out) hb); have n5_ := Aside0.mk (below_step (by repeat (first | (with_reducible first | exact HB.out | apply below_alloc | apply pw_below_drewN | apply below_drew1 | refine below_set ?_ GE193.out | refine below_set ?_ GE194.out) | exact HB.out)) hb); clear HO197; clear HO205; clear HO209; clear BK193; clear BK194; clear HB; have HO197 := n0_; have HO205 := n1_; have HO209 := n2_; have BK193 := n3_; have BK194 := n4_; have HB := n5_; clear n0_ n1_ n2_ n3_ n4_ n5_; (try clear hb); (try clear hb2); (try clear hk); (try clear hi)))
                    go_ret
                    exact ⟨by first | rfl | (simp [errW_none, errW_some] <;> rfl) | (simp only [← hji4, ← hji5, ← hjs8, ← hji10, ← hjs13]; first | rfl | (simp [errW_none, errW_some] <;> rfl)) | (simp [*, errW_none, errW_some] <;> rfl), by repeat (first | (with_reducible first | exact HB.out | apply below_alloc | apply pw_below_drewN | apply below_drew1 | refine below_set ?_ GE193.out | refine below_set ?_ GE194.out) | exact HB.out)⟩
                  · rw [if_neg c25] at H
                    exact absurd H (by simp)
                · replace c24 := Bool.eq_false_iff.mpr c24
                  subst c24
                  have H1 : (none) = some r := by rw [if_neg (show ¬ (false = true) by decide)] at H; exact H
                  clear H
                  have H := H1
                  clear H1
                  exact absurd H (by simp)
              · rw [if_neg c22] at H
                exact absurd H (by simp)
            · rw [if_neg c21] at H
              exact absurd H (by simp)
          · rw [if_neg c20] at H
            exact absurd H (by simp)
        · rw [if_neg c12] at H
          exact absurd H (by simp)
      · rw [if_neg c11] at H
        exact absurd H (by simp)
    · rw [if_neg c7] at H
      exact absurd H (by simp)
  · rw [if_neg c6] at H
    exact absurd H (by simp)

/-! ### withylaw08_SlotBack: function 4 -/
def withylaw08_SlotBack.j0 : Nat → Int → ByteArray → List ByteArray → Int → Bool → Option (Bool)
  | 0, _, _, _, _, _ => none
  | k + 1, x0, x5, x6, x7, x33 => if x33 = true then (none) else ((slot_Pack.f k (wrap64 (x7 + (Int.tmod (wrap64 (x0)) 300))) x5 x6).bind fun bt219 => ((slot_Pack.f k (wrap64 (x7 - 1)) x5 x6).bind fun bt221 => ((slot_Unpack.f k bt219.1 (x5.size : Int) (x6.length : Int)).bind fun bt223 => (if bt219.2 = 0 then (if (bt219.1.size : Int) = (wrap64 (x7 + (Int.tmod (wrap64 (x0)) 300))) then (if 0 ≤ (x5.size : Int) then (if (x5.size : Int) ≤ (bt219.1.size : Int) then (if (bt219.1.extract 0 x5.size).toList = x5.toList then (if bt221.2 = 8 then (if bt223.2 = 0 then ((withyref01_Words.f k bt223.1 x6).bind fun t227 => (if t227 = true then ((withylaw08_fixed.f k).bind fun t228 => (some t228)) else (none))) else (none)) else (none)) else (none)) else (none)) else (none)) else (none)) else (none)))))
def withylaw08_SlotBack.f (k : Nat) (a0 : Int) (a1_0 : ByteArray) (l1_1 : List ByteArray) : Option (Bool) := if 0 ≤ (mn (a1_0.size : Int) 60) then (if (mn (a1_0.size : Int) 60) ≤ (a1_0.size : Int) then ((withylaw05_Cut.f k l1_1).bind fun t215 => ((slot_Size.f (a1_0.extract 0 ((mn (a1_0.size : Int) 60) : Int).toNat) t215).bind fun t218 => (if t218 < 2 then (withylaw08_SlotBack.j0 k a0 (a1_0.extract 0 ((mn (a1_0.size : Int) 60) : Int).toNat) t215 t218 true) else (withylaw08_SlotBack.j0 k a0 (a1_0.extract 0 ((mn (a1_0.size : Int) 60) : Int).toNat) t215 t218 (decide (t218 > 4000)))))) else (none)) else (none)
theorem withylaw08_SlotBack.mono_l : ∀ k, (∀ y0 y1 y2 y3 y4, LeO (withylaw08_SlotBack.j0 k y0 y1 y2 y3 y4) (withylaw08_SlotBack.j0 (k + 1) y0 y1 y2 y3 y4))
  | 0 => fun _ _ _ _ _ r h => by simp [withylaw08_SlotBack.j0] at h
  | k + 1 => by
    have ih0 := withylaw08_SlotBack.mono_l k
    · intro y0 y1 y2 y3 y4
      unfold withylaw08_SlotBack.j0
      repeat' first
      | (with_reducible exact ih0 _ _ _ _ _)
      | (with_reducible exact slot_Pack.mono _ _ _ _)
      | (with_reducible exact slot_Unpack.mono _ _ _ _)
      | (with_reducible exact withylaw05_Cut.mono _ _)
      | (with_reducible exact withylaw08_fixed.mono _)
      | (with_reducible exact withyref01_Words.mono _ _ _)
      | (with_reducible exact LeO.refl _)
      | (with_reducible exact LeO.none _)
      | (with_reducible refine LeO.ite ?_ ?_)
      | (with_reducible refine LeO.bind ?_ (fun _ => ?_))
      | exact ih0 _ _ _ _ _
      | exact slot_Pack.mono _ _ _ _
      | exact slot_Unpack.mono _ _ _ _
      | exact withylaw05_Cut.mono _ _
      | exact withylaw08_fixed.mono _
      | exact withyref01_Words.mono _ _ _
      | exact LeO.none _
      | refine LeO.ite ?_ ?_
      | refine LeO.bind ?_ (fun _ => ?_)
theorem withylaw08_SlotBack.mono : ∀ a0 a1 a2 k, LeO (withylaw08_SlotBack.f k a0 a1 a2) (withylaw08_SlotBack.f (k + 1) a0 a1 a2) := by
  intro a0 a1 a2 k
  have ih0 := withylaw08_SlotBack.mono_l k
  unfold withylaw08_SlotBack.f
  repeat' first
      | (with_reducible exact ih0 _ _ _ _ _)
      | (with_reducible exact slot_Pack.mono _ _ _ _)
      | (with_reducible exact slot_Unpack.mono _ _ _ _)
      | (with_reducible exact withylaw05_Cut.mono _ _)
      | (with_reducible exact withylaw08_fixed.mono _)
      | (with_reducible exact withyref01_Words.mono _ _ _)
      | (with_reducible exact LeO.refl _)
      | (with_reducible exact LeO.none _)
      | (with_reducible refine LeO.ite ?_ ?_)
      | (with_reducible refine LeO.bind ?_ (fun _ => ?_))
      | exact ih0 _ _ _ _ _
      | exact slot_Pack.mono _ _ _ _
      | exact slot_Unpack.mono _ _ _ _
      | exact withylaw05_Cut.mono _ _
      | exact withylaw08_fixed.mono _
      | exact withyref01_Words.mono _ _ _
      | exact LeO.none _
      | refine LeO.ite ?_ ?_
      | refine LeO.bind ?_ (fun _ => ?_)
set_option maxHeartbeats 8000000 in
set_option maxRecDepth 100000 in
theorem withylaw08_SlotBack.calls (k : Nat) (a0 : Int) (a1_0 : ByteArray) (A1_1 : Option Addr) (c1_1 : Nat) (l1_1 : List ByteArray) (r : Bool) (w : World) (hr1_1 : Kd.C Kd.string w A1_1 l1_1.length l1_1) (hc1_1 : l1_1.length ≤ c1_1) (h : withylaw08_SlotBack.f k a0 a1_0 l1_1 = some r) :
    Calls Try.prog 4 #[.int .u16 a0, .agg #[.string a1_0, .slice A1_1 l1_1.length c1_1]] w fun e w' => e = .returned (.bool r) ∧ Below w.heap.size w w' := by
  have hu24 := Try.underlying24
  have HR1_1 := Aside0.mk hr1_1
  have HC1_1 := Aside0.mk hc1_1
  clear hr1_1 hc1_1
  have HB := Aside0.mk (Below.refl w.heap.size w)
  have H : (if 0 ≤ (mn (a1_0.size : Int) 60) then (if (mn (a1_0.size : Int) 60) ≤ (a1_0.size : Int) then ((withylaw05_Cut.f k l1_1).bind fun t215 => ((slot_Size.f (a1_0.extract 0 ((mn (a1_0.size : Int) 60) : Int).toNat) t215).bind fun t218 => (if t218 < 2 then (withylaw08_SlotBack.j0 k a0 (a1_0.extract 0 ((mn (a1_0.size : Int) 60) : Int).toNat) t215 t218 true) else (withylaw08_SlotBack.j0 k a0 (a1_0.extract 0 ((mn (a1_0.size : Int) 60) : Int).toNat) t215 t218 (decide (t218 > 4000)))))) else (none)) else (none)) = some r := h
  clear h
  obtain ⟨ji3, hji3⟩ : ∃ j_ : Int, (mn (a1_0.size : Int) 60) = j_ := ⟨_, rfl⟩
  replace H : (if 0 ≤ (ji3) then (if (ji3) ≤ (a1_0.size : Int) then ((withylaw05_Cut.f k l1_1).bind fun t215 => ((slot_Size.f (a1_0.extract 0 ((ji3) : Int).toNat) t215).bind fun t218 => (if t218 < 2 then (withylaw08_SlotBack.j0 k a0 (a1_0.extract 0 ((ji3) : Int).toNat) t215 t218 true) else (withylaw08_SlotBack.j0 k a0 (a1_0.extract 0 ((ji3) : Int).toNat) t215 t218 (decide (t218 > 4000)))))) else (none)) else (none)) = some r := by first | (rw [hji3] at H; exact H) | (simp only [hji3] at H ⊢; exact H)
  (try (have hji3h : ji3 ≤ 60 := by (rw [← hji3]; unfold mn; (repeat' split) <;> omega)))
  (try (have hji3g : ji3 ≤ 64 := by omega))
  (try (have hji3l : 0 ≤ ji3 := by (rw [← hji3]; unfold mn; (repeat' split) <;> omega)))
  (try (have hji3m : 0 ≤ ji3 := by omega))
  have hji3_ : (if 60 < (a1_0.size : Int) then 60 else (a1_0.size : Int)) = ji3 := hji3
  by_cases c4 : 0 ≤ (ji3)
  · rw [if_pos c4] at H
    have c4b0 := eq_true c4
    have c4b1 : decide (0 ≤ (ji3)) = true := decide_eq_true c4
    clear c4
    by_cases c5 : (ji3) ≤ (a1_0.size : Int)
    · rw [if_pos c5] at H
      have c5b0 := eq_true c5
      have c5b1 : decide ((ji3) ≤ (a1_0.size : Int)) = true := decide_eq_true c5
      clear c5
      obtain ⟨js6, hjs6⟩ : ∃ j_ : ByteArray, (a1_0.extract 0 ((ji3) : Int).toNat) = j_ := ⟨_, rfl⟩
      replace H : ((withylaw05_Cut.f k l1_1).bind fun t215 => ((slot_Size.f (js6) t215).bind fun t218 => (if t218 < 2 then (withylaw08_SlotBack.j0 k a0 js6 t215 t218 true) else (withylaw08_SlotBack.j0 k a0 js6 t215 t218 (decide (t218 > 4000)))))) = some r := by first | (rw [hjs6] at H; exact H) | (simp only [hjs6] at H ⊢; exact H)
      replace H := Option.bind_eq_some_iff.mp H
      obtain ⟨t215, A70, H⟩ := H
      replace H : ((slot_Size.f (js6) t215).bind fun t218 => (if t218 < 2 then (withylaw08_SlotBack.j0 k a0 js6 t215 t218 true) else (withylaw08_SlotBack.j0 k a0 js6 t215 t218 (decide (t218 > 4000))))) = some r := H
      have A7 := Aside0.mk A70
      clear A70
      replace H := Option.bind_eq_some_iff.mp H
      obtain ⟨t218, A80, H⟩ := H
      replace H : (if t218 < 2 then (withylaw08_SlotBack.j0 k a0 js6 t215 t218 true) else (withylaw08_SlotBack.j0 k a0 js6 t215 t218 (decide (t218 > 4000)))) = some r := H
      have A8 := Aside0.mk A80
      clear A80
      have HC9 := Aside0.mk H
      clear H
      go_enter Try.func4, Try.ntmps4
      (try simp only [List.append_eq, List.cons_append, List.nil_append])
      go_upto_region 4 with (first | ((with_reducible refine gate_dst (N := 3) rfl ?_); (try (refine gate_guard (by rfl) ?_; dsimp only)); refine box_event ?hg (N := 3) ?hd (cs := #[.string a1_0, .slice A1_1 l1_1.length c1_1]) (t := 24) ?hr ?_; (case hd => rfl); (case hg => rfl); (case hr => first | (go_simp; done) | (go_simp; rfl)); intro gb214 hg w10 hbox hb; have n0_ := Aside0.mk (below_step (by repeat (first | (with_reducible first | exact HB.out | apply below_alloc | apply pw_below_drewN | apply below_drew1) | exact HB.out)) hb); have n1_ := Aside0.mk (hbox); have n2_ := Aside0.mk ((by rw [hg]; exact (below_size (by repeat (first | (with_reducible first | exact HB.out | apply below_alloc | apply pw_below_drewN | apply below_drew1) | exact HB.out))) : w.heap.size ≤ gb214)); have n3_ := Aside0.mk ((by rw [hg]; exact (below_size (by repeat (first | (with_reducible first | exact HB.out | apply below_alloc | apply pw_below_drewN | apply below_drew1) | exact HB.out))) : w.heap.size ≤ gb214)); clear HB; have HB := n0_; have BK214 := n1_; have GW214 := n2_; have GE214 := n3_; clear n0_ n1_ n2_ n3_; clear hb hbox hg; have hcz11_0 : w10.cell? ⟨gb214, 0, none⟩ = some (.string a1_0) := (blk_cell BK214.out 0).trans rfl; have hcz11_1 : w10.cell? ⟨gb214, 1, none⟩ = some (.slice A1_1 l1_1.length c1_1) := (blk_cell BK214.out 1).trans rfl; have hfz11_0 := blk_frozen BK214.out 0; have hfz11_1 := blk_frozen BK214.out 1) | ((with_reducible refine gate_callee (f := 8) rfl ?_); refine goesL_ (some 24) rfl rfl Try.func8 (by kernel_rfl) rfl #[.slice A1_1 l1_1.length c1_1] rfl (by (try simp only [List.map_toArray, List.map_cons, List.map_nil]); first | done | rfl | (simp only [List.length_drop, List.length_take]; rfl)) ?_; (with_reducible refine (withylaw05_Cut.calls k _ _ l1_1 t215 _ ?side1 ?side2 A7.out).mono ?_); (case side1 => repeat (first | exact (Kd.C_below HR1_1.out HB.out) | (with_reducible refine Kd.C_alloc ?_ _) | (with_reducible refine Kd.C_drewN ?_ _) | (with_reducible refine Kd.C_drew ?_))); (case side2 => exact HC1_1.out); rintro e w12 ⟨v216, rfl, ho0, hb⟩; refine ⟨_, rfl, ?_⟩; have n0_ := Aside0.mk (Kd.R_lower ho0 (below_size (by repeat (first | (with_reducible first | exact HB.out | apply below_alloc | apply pw_below_drewN | apply below_drew1 | refine below_set ?_ GE214.out) | exact HB.out)))); have n1_ := Aside0.mk (blk_below (g := gb214) (o := .cells #[.string a1_0, .slice A1_1 l1_1.length c1_1] 24 (0, 0)) (by (with_reducible repeat (first | refine blk_drewN ?_ _ | refine blk_drew ?_ | refine blk_alloc ?_ _)); exact BK214.out) hb); have n2_ := Aside0.mk (below_step (by repeat (first | (with_reducible first | exact HB.out | apply below_alloc | apply pw_below_drewN | apply below_drew1 | refine below_set ?_ GE214.out) | exact HB.out)) hb); clear BK214; clear HB; have HO217 := n0_; have BK214 := n1_; have HB := n2_; clear n0_ n1_ n2_; (try clear hb); (try clear hb2); (try clear hk); (try clear hi); (try clear ho0); obtain ⟨Ao13, co13, eo13⟩ := Kd.R_slice HO217.out; subst eo13) | ((with_reducible refine gate_callee (f := 13) rfl ?_); refine goesL_ (some 27) rfl rfl Try.func13 (by kernel_rfl) rfl #[.string js6, .slice Ao13 t215.length co13] rfl (by (try simp only [List.map_toArray, List.map_cons, List.map_nil]); first | done | rfl | (simp only [List.length_drop, List.length_take]; rfl)) ?_; (with_reducible refine (slot_Size.calls js6 _ _ t215 t218 _ ?side1 ?side2 A8.out).mono ?_); (case side1 => repeat (first | exact (Kd.R_reads' HO217.out).2.2 | (with_reducible refine Kd.C_alloc ?_ _) | (with_reducible refine Kd.C_drewN ?_ _) | (with_reducible refine Kd.C_drew ?_))); (case side2 => exact (Kd.R_reads' HO217.out).2.1); rintro e w14 ⟨rfl, hb⟩; refine ⟨_, rfl, ?_⟩; have n0_ := Aside0.mk (Kd.R_below (by (with_reducible repeat (first | apply Kd.R_alloc | apply Kd.R_drewN | apply Kd.R_drew)); exact HO217.out) hb); have n1_ := Aside0.mk (blk_below (g := gb214) (o := .cells #[.string a1_0, .slice A1_1 l1_1.length c1_1] 24 (0, 0)) (by (with_reducible repeat (first | refine blk_drewN ?_ _ | refine blk_drew ?_ | refine blk_alloc ?_ _)); exact BK214.out) hb); have n2_ := Aside0.mk (below_step (by repeat (first | (with_reducible first | exact HB.out | apply below_alloc | apply pw_below_drewN | apply below_drew1 | refine below_set ?_ GE214.out) | exact HB.out)) hb); clear HO217; clear BK214; clear HB; have HO217 := n0_; have BK214 := n1_; have HB := n2_; clear n0_ n1_ n2_; (try clear hb); (try clear hb2); (try clear hk); (try clear hi)))
      (try simp only [Act.put, List.setIfInBounds_toArray, List.set_cons_zero, List.set_cons_succ])
      go_cut [33] (fun v33 wc => ∃ (kq : Nat) (x33_8 : Bool), v33 = .bool x33_8 ∧ Aside0 (withylaw08_SlotBack.j0 kq a0 js6 t215 t218 x33_8 = some r) ∧ Aside0 (kq ≤ k) ∧ Aside0 (Kd.R Kd.string 9 wc w.heap.size (fun _ => True) (.slice Ao13 t215.length co13) t215) ∧ Aside0 (wc.heap[gb214]? = some (.cells #[.string a1_0, (.slice A1_1 l1_1.length c1_1)] 24 (0, 0))) ∧ Aside0 (Below w.heap.size w wc))
      case first =>
        have H := HC9.out
        clear HC9
        by_cases c15 : t218 < 2
        · rw [if_pos c15] at H
          have c15b0 : decide (t218 < 2) = true := decide_eq_true c15
          clear c15
          (first | rw [c15b0] | (simp only [i64_w, i32_w]; rw [c15b0]) | rw [c15b1] | skip)
          have H' := Aside0.mk H
          clear H
          go_wp2
          go_meet
          case rel => exact ⟨_, (true), (by first | rfl | (simp; done) | (simp [*]; done)), H', ⟨by first | omega | exact Nat.le_refl _⟩, ⟨by (with_reducible repeat (first | apply Kd.R_alloc | apply Kd.R_drewN | apply Kd.R_drew)); exact HO217.out⟩, ⟨by (with_reducible repeat (first | refine blk_drewN ?_ _ | refine blk_drew ?_ | refine blk_alloc ?_ _)); exact BK214.out⟩, ⟨by repeat (first | (with_reducible first | exact HB.out | apply below_alloc | apply pw_below_drewN | apply below_drew1 | refine below_set ?_ GE214.out) | exact HB.out)⟩⟩
        · rw [if_neg c15] at H
          have c15b0 : decide (t218 < 2) = false := decide_eq_false c15
          clear c15
          (first | rw [c15b0] | (simp only [i64_w, i32_w]; rw [c15b0]) | rw [c15b1] | skip)
          have H' := Aside0.mk H
          clear H
          go_wp2
          go_meet
          case rel => exact ⟨_, (decide (t218 > 4000)), (by first | rfl | (simp; done) | (simp [*]; done)), H', ⟨by first | omega | exact Nat.le_refl _⟩, ⟨by (with_reducible repeat (first | apply Kd.R_alloc | apply Kd.R_drewN | apply Kd.R_drew)); exact HO217.out⟩, ⟨by (with_reducible repeat (first | refine blk_drewN ?_ _ | refine blk_drew ?_ | refine blk_alloc ?_ _)); exact BK214.out⟩, ⟨by repeat (first | (with_reducible first | exact HB.out | apply below_alloc | apply pw_below_drewN | apply below_drew1 | refine below_set ?_ GE214.out) | exact HB.out)⟩⟩
      case rest =>
        clear HC9
        try clear c1
        try clear p2
        try clear c4
        try clear c4b0
        try clear c4b1
        try clear c5
        try clear c5b0
        try clear c5b1
        try clear c8
        try clear c13
        try clear c15
        try clear c15b0
        try clear c15b1
        try clear hcz11_0
        try clear hcz11_1
        try clear hfz11_0
        try clear hfz11_1
        obtain ⟨kq, x33_8, rfl, HA, HJ8, HO_6, BK214, HB⟩ := hcut
        cases kq with
        | zero => exact absurd HA.out (by simp [withylaw08_SlotBack.j0])
        | succ kj8 =>
          have H := HA.out
          clear HA
          simp only [withylaw08_SlotBack.j0] at H
          by_cases c16 : x33_8 = true
          · subst c16
            have H1 : (none) = some r := by rw [if_pos rfl] at H; exact H
            clear H
            have H := H1
            clear H1
            exact absurd H (by simp)
          · replace c16 := Bool.eq_false_iff.mpr c16
            subst c16
            have H1 : ((slot_Pack.f kj8 (wrap64 (t218 + (Int.tmod (wrap64 (a0)) 300))) js6 t215).bind fun bt219 => ((slot_Pack.f kj8 (wrap64 (t218 - 1)) js6 t215).bind fun bt221 => ((slot_Unpack.f kj8 bt219.1 (js6.size : Int) (t215.length : Int)).bind fun bt223 => (if bt219.2 = 0 then (if (bt219.1.size : Int) = (wrap64 (t218 + (Int.tmod (wrap64 (a0)) 300))) then (if 0 ≤ (js6.size : Int) then (if (js6.size : Int) ≤ (bt219.1.size : Int) then (if (bt219.1.extract 0 js6.size).toList = js6.toList then (if bt221.2 = 8 then (if bt223.2 = 0 then ((withyref01_Words.f kj8 bt223.1 t215).bind fun t227 => (if t227 = true then ((withylaw08_fixed.f kj8).bind fun t228 => (some t228)) else (none))) else (none)) else (none)) else (none)) else (none)) else (none)) else (none)) else (none))))) = some r := by rw [if_neg (show ¬ (false = true) by decide)] at H; exact H
            clear H
            have H := H1
            clear H1
            replace H := Option.bind_eq_some_iff.mp H
            obtain ⟨⟨t219, t220⟩, A170, H⟩ := H
            replace H : ((slot_Pack.f kj8 (wrap64 (t218 - 1)) js6 t215).bind fun bt221 => ((slot_Unpack.f kj8 t219 (js6.size : Int) (t215.length : Int)).bind fun bt223 => (if t220 = 0 then (if (t219.size : Int) = (wrap64 (t218 + (Int.tmod (wrap64 (a0)) 300))) then (if 0 ≤ (js6.size : Int) then (if (js6.size : Int) ≤ (t219.size : Int) then (if (t219.extract 0 js6.size).toList = js6.toList then (if bt221.2 = 8 then (if bt223.2 = 0 then ((withyref01_Words.f kj8 bt223.1 t215).bind fun t227 => (if t227 = true then ((withylaw08_fixed.f kj8).bind fun t228 => (some t228)) else (none))) else (none)) else (none)) else (none)) else (none)) else (none)) else (none)) else (none)))) = some r := H
            have A17 := Aside0.mk A170
            clear A170
            replace H := Option.bind_eq_some_iff.mp H
            obtain ⟨⟨t221, t222⟩, A180, H⟩ := H
            replace H : ((slot_Unpack.f kj8 t219 (js6.size : Int) (t215.length : Int)).bind fun bt223 => (if t220 = 0 then (if (t219.size : Int) = (wrap64 (t218 + (Int.tmod (wrap64 (a0)) 300))) then (if 0 ≤ (js6.size : Int) then (if (js6.size : Int) ≤ (t219.size : Int) then (if (t219.extract 0 js6.size).toList = js6.toList then (if t222 = 8 then (if bt223.2 = 0 then ((withyref01_Words.f kj8 bt223.1 t215).bind fun t227 => (if t227 = true then ((withylaw08_fixed.f kj8).bind fun t228 => (some t228)) else (none))) else (none)) else (none)) else (none)) else (none)) else (none)) else (none)) else (none))) = some r := H
            have A18 := Aside0.mk A180
            clear A180
            replace H := Option.bind_eq_some_iff.mp H
            obtain ⟨⟨t223, t224⟩, A190, H⟩ := H
            replace H : (if t220 = 0 then (if (t219.size : Int) = (wrap64 (t218 + (Int.tmod (wrap64 (a0)) 300))) then (if 0 ≤ (js6.size : Int) then (if (js6.size : Int) ≤ (t219.size : Int) then (if (t219.extract 0 js6.size).toList = js6.toList then (if t222 = 8 then (if t224 = 0 then ((withyref01_Words.f kj8 t223 t215).bind fun t227 => (if t227 = true then ((withylaw08_fixed.f kj8).bind fun t228 => (some t228)) else (none))) else (none)) else (none)) else (none)) else (none)) else (none)) else (none)) else (none)) = some r := H
            have A19 := Aside0.mk A190
            clear A190
            by_cases c20 : t220 = 0
            · rw [if_pos c20] at H
              have c20b0 : (t220 == 0) = true := beq_iff_eq.mpr c20
              have c20b1 : (t220 != 0) = false := bne_eq_false_iff_eq.mpr c20
              clear c20
              by_cases c21 : (t219.size : Int) = (wrap64 (t218 + (Int.tmod (wrap64 (a0)) 300)))
              · rw [if_pos c21] at H
                have c21b0 : ((t219.size : Int) == (wrap64 (t218 + (Int.tmod (wrap64 (a0)) 300)))) = true := beq_iff_eq.mpr c21
                have c21b1 : ((t219.size : Int) != (wrap64 (t218 + (Int.tmod (wrap64 (a0)) 300)))) = false := bne_eq_false_iff_eq.mpr c21
                clear c21
                by_cases c22 : 0 ≤ (js6.size : Int)
                · rw [if_pos c22] at H
                  have c22b0 := eq_true c22
                  have c22b1 : decide (0 ≤ (js6.size : Int)) = true := decide_eq_true c22
                  clear c22
                  by_cases c23 : (js6.size : Int) ≤ (t219.size : Int)
                  · rw [if_pos c23] at H
                    have c23b0 := eq_true c23
                    have c23b1 : decide ((js6.size : Int) ≤ (t219.size : Int)) = true := decide_eq_true c23
                    clear c23
                    obtain ⟨js24, hjs24⟩ : ∃ j_ : ByteArray, (t219.extract 0 js6.size) = j_ := ⟨_, rfl⟩
                    replace H : (if (js24).toList = js6.toList then (if t222 = 8 then (if t224 = 0 then ((withyref01_Words.f kj8 t223 t215).bind fun t227 => (if t227 = true then ((withylaw08_fixed.f kj8).bind fun t228 => (some t228)) else (none))) else (none)) else (none)) else (none)) = some r := by first | (rw [hjs24] at H; exact H) | (simp only [hjs24] at H ⊢; exact H)
                    (try rw [hjs24] at A17)
                    (try rw [hjs24] at A18)
                    (try rw [hjs24] at A19)
                    by_cases c25 : (js24).toList = js6.toList
                    · rw [if_pos c25] at H
                      have c25b0 : ((js24).toList == js6.toList) = true := beq_iff_eq.mpr c25
                      have c25b1 : ((js24).toList != js6.toList) = false := bne_eq_false_iff_eq.mpr c25
                      clear c25
                      by_cases c26 : t222 = 8
                      · rw [if_pos c26] at H
                        have c26b0 : (t222 == 8) = true := beq_iff_eq.mpr c26
                        have c26b1 : (t222 != 8) = false := bne_eq_false_iff_eq.mpr c26
                        clear c26
                        by_cases c27 : t224 = 0
                        · rw [if_pos c27] at H
                          have c27b0 : (t224 == 0) = true := beq_iff_eq.mpr c27
                          have c27b1 : (t224 != 0) = false := bne_eq_false_iff_eq.mpr c27
                          clear c27
                          replace H := Option.bind_eq_some_iff.mp H
                          obtain ⟨t227, A280, H⟩ := H
                          replace H : (if t227 = true then ((withylaw08_fixed.f kj8).bind fun t228 => (some t228)) else (none)) = some r := H
                          have A28 := Aside0.mk A280
                          clear A280
                          by_cases c29 : t227 = true
                          · subst c29
                            have H1 : ((withylaw08_fixed.f kj8).bind fun t228 => (some t228)) = some r := by rw [if_pos rfl] at H; exact H
                            clear H
                            have H := H1
                            clear H1
                            replace H := Option.bind_eq_some_iff.mp H
                            obtain ⟨t228, A300, H⟩ := H
                            replace H : (some t228) = some r := H
                            have A30 := Aside0.mk A300
                            clear A300
                            obtain rfl := Option.some.inj H
                            go_wp2_with (first | ((with_reducible refine gate_callee (f := 9) rfl ?_); refine goesL_ (some 43) rfl rfl Try.func9 (by kernel_rfl) rfl #[.int .i64 (wrap64 (t218 + (Int.tmod (wrap64 (a0)) 300))), .string js6, .slice Ao13 t215.length co13] rfl (by (try simp only [List.map_toArray, List.map_cons, List.map_nil]); first | done | rfl | (simp only [List.length_drop, List.length_take]; rfl)) ?_; (with_reducible refine (slot_Pack.calls kj8 (wrap64 (t218 + (Int.tmod (wrap64 (a0)) 300))) js6 _ _ t215 t219 t220 _ ?side1 ?side2 A17.out).mono ?_); (case side1 => repeat (first | exact (Kd.R_reads' HO_6.out).2.2 | (with_reducible refine Kd.C_alloc ?_ _) | (with_reducible refine Kd.C_drewN ?_ _) | (with_reducible refine Kd.C_drew ?_))); (case side2 => exact (Kd.R_reads' HO_6.out).2.1); rintro e w31 ⟨rfl, hb⟩; refine ⟨_, rfl, ?_⟩; have n0_ := Aside0.mk (Kd.R_below (by (with_reducible repeat (first | apply Kd.R_alloc | apply Kd.R_drewN | apply Kd.R_drew)); exact HO_6.out) hb); have n1_ := Aside0.mk (blk_below (g := gb214) (o := .cells #[.string a1_0, .slice A1_1 l1_1.length c1_1] 24 (0, 0)) (by (with_reducible repeat (first | refine blk_drewN ?_ _ | refine blk_drew ?_ | refine blk_alloc ?_ _)); exact BK214.out) hb); have n2_ := Aside0.mk (below_step (by repeat (first | (with_reducible first | exact HB.out | apply below_alloc | apply pw_below_drewN | apply below_drew1 | refine below_set ?_ GE214.out) | exact HB.out)) hb); clear HO_6; clear BK214; clear HB; have HO_6 := n0_; have BK214 := n1_; have HB := n2_; clear n0_ n1_ n2_; (try clear hb); (try clear hb2); (try clear hk); (try clear hi)) | ((with_reducible refine gate_callee (f := 9) rfl ?_); refine goesL_ (some 51) rfl rfl Try.func9 (by kernel_rfl) rfl #[.int .i64 (wrap64 (t218 - 1)), .string js6, .slice Ao13 t215.length co13] rfl (by (try simp only [List.map_toArray, List.map_cons, List.map_nil]); first | done | rfl | (simp only [List.length_drop, List.length_take]; rfl)) ?_; (with_reducible refine (slot_Pack.calls kj8 (wrap64 (t218 - 1)) js6 _ _ t215 t221 t222 _ ?side1 ?side2 A18.out).mono ?_); (case side1 => repeat (first | exact (Kd.R_reads' HO_6.out).2.2 | (with_reducible refine Kd.C_alloc ?_ _) | (with_reducible refine Kd.C_drewN ?_ _) | (with_reducible refine Kd.C_drew ?_))); (case side2 => exact (Kd.R_reads' HO_6.out).2.1); rintro e w32 ⟨rfl, hb⟩; refine ⟨_, rfl, ?_⟩; have n0_ := Aside0.mk (Kd.R_below (by (with_reducible repeat (first | apply Kd.R_alloc | apply Kd.R_drewN | apply Kd.R_drew)); exact HO_6.out) hb); have n1_ := Aside0.mk (blk_below (g := gb214) (o := .cells #[.string a1_0, .slice A1_1 l1_1.length c1_1] 24 (0, 0)) (by (with_reducible repeat (first | refine blk_drewN ?_ _ | refine blk_drew ?_ | refine blk_alloc ?_ _)); exact BK214.out) hb); have n2_ := Aside0.mk (below_step (by repeat (first | (with_reducible first | exact HB.out | apply below_alloc | apply pw_below_drewN | apply below_drew1 | refine below_set ?_ GE214.out) | exact HB.out)) hb); clear HO_6; clear BK214; clear HB; have HO_6 := n0_; have BK214 := n1_; have HB := n2_; clear n0_ n1_ n2_; (try clear hb); (try clear hb2); (try clear hk); (try clear hi)) | ((with_reducible refine gate_callee (f := 11) rfl ?_); refine goesL_ (some 60) rfl rfl Try.func11 (by kernel_rfl) rfl #[.string t219, .int .i64 (js6.size : Int), .int .i64 (t215.length : Int)] rfl (by (try simp only [List.map_toArray, List.map_cons, List.map_nil]); first | done | rfl | (simp only [List.length_drop, List.length_take]; rfl)) ?_; (with_reducible refine (slot_Unpack.calls kj8 t219 (js6.size : Int) (t215.length : Int) t223 t224 _ A19.out).mono ?_); rintro e w33 ⟨v225, rfl, ho0, hb⟩; refine ⟨_, rfl, ?_⟩; have n0_ := Aside0.mk (Kd.R_elder' (by (with_reducible repeat (first | apply Kd.R_alloc | apply Kd.R_drewN | apply Kd.R_drew)); exact HO_6.out) (Kd.R_base ho0) hb); have n1_ := Aside0.mk (Kd.R_lower (Kd.R_new' ho0 (Kd.R_lt (by (with_reducible repeat (first | apply Kd.R_alloc | apply Kd.R_drewN | apply Kd.R_drew)); exact HO_6.out))) (below_size (by repeat (first | (with_reducible first | exact HB.out | apply below_alloc | apply pw_below_drewN | apply below_drew1 | refine below_set ?_ GE214.out) | exact HB.out)))); have n2_ := Aside0.mk (blk_below (g := gb214) (o := .cells #[.string a1_0, .slice A1_1 l1_1.length c1_1] 24 (0, 0)) (by (with_reducible repeat (first | refine blk_drewN ?_ _ | refine blk_drew ?_ | refine blk_alloc ?_ _)); exact BK214.out) hb); have n3_ := Aside0.mk (below_step (by repeat (first | (with_reducible first | exact HB.out | apply below_alloc | apply pw_below_drewN | apply below_drew1 | refine below_set ?_ GE214.out) | exact HB.out)) hb); clear HO_6; clear BK214; clear HB; have HO_6 := n0_; have HO226 := n1_; have BK214 := n2_; have HB := n3_; clear n0_ n1_ n2_ n3_; (try clear hb); (try clear hb2); (try clear hk); (try clear hi); (try clear ho0); obtain ⟨Ao34, co34, eo34⟩ := Kd.R_slice HO226.out; subst eo34) | (go_at_call 15; (with_reducible refine (withyref01_Words.calls kj8 _ _ t223 _ _ t215 true _ ?side1 ?side2 ?side3 ?side4 A28.out).mono ?_); (case side1 => repeat (first | exact (Kd.R_reads' HO226.out).2.2 | (with_reducible refine Kd.C_alloc ?_ _) | (with_reducible refine Kd.C_drewN ?_ _) | (with_reducible refine Kd.C_drew ?_))); (case side2 => exact (Kd.R_reads' HO226.out).2.1); (case side3 => repeat (first | exact (Kd.R_reads' HO_6.out).2.2 | (with_reducible refine Kd.C_alloc ?_ _) | (with_reducible refine Kd.C_drewN ?_ _) | (with_reducible refine Kd.C_drew ?_))); (case side4 => exact (Kd.R_reads' HO_6.out).2.1); rintro e w' ⟨rfl, ⟨nd, rfl⟩⟩) | (go_at_call 16; (with_reducible refine (withylaw08_fixed.calls kj8  t228 _ A30.out).mono ?_); rintro e w35 ⟨rfl, hb⟩; have n0_ := Aside0.mk (Kd.R_below (by (with_reducible repeat (first | apply Kd.R_alloc | apply Kd.R_drewN | apply Kd.R_drew)); exact HO_6.out) hb); have n1_ := Aside0.mk (Kd.R_below (by (with_reducible repeat (first | apply Kd.R_alloc | apply Kd.R_drewN | apply Kd.R_drew)); exact HO226.out) hb); have n2_ := Aside0.mk (blk_below (g := gb214) (o := .cells #[.string a1_0, .slice A1_1 l1_1.length c1_1] 24 (0, 0)) (by (with_reducible repeat (first | refine blk_drewN ?_ _ | refine blk_drew ?_ | refine blk_alloc ?_ _)); exact BK214.out) hb); have n3_ := Aside0.mk (below_step (by repeat (first | (with_reducible first | exact HB.out | apply below_alloc | apply pw_below_drewN | apply below_drew1 | refine below_set ?_ GE214.out) | exact HB.out)) hb); clear HO_6; clear HO226; clear BK214; clear HB; have HO_6 := n0_; have HO226 := n1_; have BK214 := n2_; have HB := n3_; clear n0_ n1_ n2_ n3_; (try clear hb); (try clear hb2); (try clear hk); (try clear hi)))
                            go_ret
                            exact ⟨by first | rfl | (simp [errW_none, errW_some] <;> rfl) | (simp only [← hji3, ← hjs6, ← hjs24]; first | rfl | (simp [errW_none, errW_some] <;> rfl)) | (simp [*, errW_none, errW_some] <;> rfl), by repeat (first | (with_reducible first | exact HB.out | apply below_alloc | apply pw_below_drewN | apply below_drew1 | refine below_set ?_ GE214.out) | exact HB.out)⟩
                          · replace c29 := Bool.eq_false_iff.mpr c29
                            subst c29
                            have H1 : (none) = some r := by rw [if_neg (show ¬ (false = true) by decide)] at H; exact H
                            clear H
                            have H := H1
                            clear H1
                            exact absurd H (by simp)
                        · rw [if_neg c27] at H
                          exact absurd H (by simp)
                      · rw [if_neg c26] at H
                        exact absurd H (by simp)
                    · rw [if_neg c25] at H
                      exact absurd H (by simp)
                  · rw [if_neg c23] at H
                    exact absurd H (by simp)
                · rw [if_neg c22] at H
                  exact absurd H (by simp)
              · rw [if_neg c21] at H
                exact absurd H (by simp)
            · rw [if_neg c20] at H
              exact absurd H (by simp)
    · rw [if_neg c5] at H
      exact absurd H (by simp)
  · rw [if_neg c4] at H
    exact absurd H (by simp)

end Go.Proofs.Ytkhbmgnjopkeaaa.P
