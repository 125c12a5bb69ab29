/- What is proved here: for functions of the Go text, a Lean function each, and that the call comes to just what it answers. Conditions: as each contract names them. Written by wip/tools/myprint.py, a driver of the print of the kit. -/
import Derived.Test.YthaicofleloplaaDoorP0
import Derived.Test.YthaicofleloplaaDoorP2
import Derived.Test.YthaicofleloplaaDoorP5
import Derived.Test.YthaicofleloplaaDoorP7
import Derived.Test.YthaicofleloplaaDoorP10
import Derived.Test.YthaicofleloplaaDoorWAbbr
namespace Go.Proofs.YthaicofleloplaaDoor.P
open Go.RowKit Go.Proofs.YthaicofleloplaaDoorW.PrintWords Go.Proofs.YthaicofleloplaaDoorW.PrintLast Go.Proofs.YthaicofleloplaaDoorW.PrintMore Go.Proofs.YthaicofleloplaaDoorW.Abbr
-- PACKED
attribute [local go_sem] max2_int min2_int max_two min_two max_three min_three max_four min_four Go.Proofs.YthaicofleloplaaDoorLaws.str_leq Go.Proofs.YthaicofleloplaaDoorLaws.str_gtr Go.Proofs.YthaicofleloplaaDoorLaws.str_geq Go.Proofs.YthaicofleloplaaDoorLaws.max2_str Go.Proofs.YthaicofleloplaaDoorLaws.min2_str   -- for this text's walks alone
set_option linter.unusedVariables false
set_option linter.unusedSimpArgs false

attribute [local go_sem high] eqA56
/-! ### withyref04_Same: function 20 -/
def withyref04_Same.l0 : Nat → List (S56) → List (S56) → Int → Option (Bool)
 | 0, _, _, _ => none
 | k + 1, x0, x1, x5 => if x5 < (x0.length : Int) then (if 0 ≤ x5 then (if x5 < (x1.length : Int) then (if (!(((rd_T56 x0 x5).f0) == ((rd_T56 x1 x5).f0)) || (!(((rd_T56 x0 x5).f1) == ((rd_T56 x1 x5).f1)) || (!(((rd_T56 x0 x5).f2) == ((rd_T56 x1 x5).f2)) || (!((((rd_T56 x0 x5).f3).toList) == (((rd_T56 x1 x5).f3).toList)))))) = true then (some false) else (withyref04_Same.l0 k x0 x1 (wrap64 (x5 + 1)))) else (none)) else (none)) else (some true)
def withyref04_Same.f (k : Nat) (l0 : List (S56)) (l1 : List (S56)) : Option (Bool) := if (l0.length : Int) = (l1.length : Int) then (withyref04_Same.l0 k l0 l1 0) else (some false)
theorem withyref04_Same.mono_l : ∀ k, (∀ y0 y1 y2, LeO (withyref04_Same.l0 k y0 y1 y2) (withyref04_Same.l0 (k + 1) y0 y1 y2))
 | 0 => fun _ _ _ r h => by simp [withyref04_Same.l0] at h
 | k + 1 => by
  have ih0 := withyref04_Same.mono_l k
  ·intro y0 y1 y2
   unfold withyref04_Same.l0
   repeat' first
   | (with_reducible exact ih0 _ _ _)
   | (with_reducible exact LeO.refl _)
   | (with_reducible exact LeO.none _)
   | (with_reducible refine LeO.ite ?_ ?_)
   | (with_reducible refine LeO.bind ?_ (fun _ => ?_))
   | exact ih0 _ _ _
   | exact LeO.none _
   | refine LeO.ite ?_ ?_
   | refine LeO.bind ?_ (fun _ => ?_)
theorem withyref04_Same.mono : ∀ a0 a1 k, LeO (withyref04_Same.f k a0 a1) (withyref04_Same.f (k + 1) a0 a1) := by
 intro a0 a1 k
 have ih0 := withyref04_Same.mono_l k
 unfold withyref04_Same.f
 repeat' first
   | (with_reducible exact ih0 _ _ _)
   | (with_reducible exact LeO.refl _)
   | (with_reducible exact LeO.none _)
   | (with_reducible refine LeO.ite ?_ ?_)
   | (with_reducible refine LeO.bind ?_ (fun _ => ?_))
   | exact ih0 _ _ _
   | exact LeO.none _
   | refine LeO.ite ?_ ?_
   | refine LeO.bind ?_ (fun _ => ?_)
set_option maxHeartbeats 8000000 in
set_option maxRecDepth 100000 in
theorem withyref04_Same.calls (k : Nat) (A0 : Option Addr) (c0 : Nat) (l0 : List (S56)) (A1 : Option Addr) (c1 : Nat) (l1 : List (S56)) (r : Bool) (w : World) (hr0 : Kd.C k56 w A0 l0.length l0) (hc0 : l0.length ≤ c0) (hr1 : Kd.C k56 w A1 l1.length l1) (hc1 : l1.length ≤ c1) (h : withyref04_Same.f k l0 l1 = some r) :
  Calls Tryd.prog 20 #[.slice A0 l0.length c0, .slice A1 l1.length c1] w fun e w' => e = .returned (.bool r) ∧ Drawn0 w w' := by
 have hu56 := Tryd.underlying56
 have HR0 := Aside0.mk hr0
 have HC0 := Aside0.mk hc0
 clear hr0 hc0
 have HR1 := Aside0.mk hr1
 have HC1 := Aside0.mk hc1
 clear hr1 hc1
 have H : (if (l0.length : Int) = (l1.length : Int) then (withyref04_Same.l0 k l0 l1 0) else (some false)) = some r := h
 clear h
 by_cases c3 : (l0.length : Int) = (l1.length : Int)
 rotate_left
 ·rw [if_neg c3] at H
  have c3b0 : ((l0.length : Int) == (l1.length : Int)) = false := beq_eq_false_iff_ne.mpr c3
  have c3b1 : ((l0.length : Int) != (l1.length : Int)) = true := bne_iff_ne.mpr c3
  have c3b2 : (l0.length == l1.length) = false := by first | simpa using c3 | (simp at c3 ⊢; omega)
  obtain rfl := Option.some.inj H
  go_enter Tryd.func20, Tryd.ntmps20
  go_wp2
  repeat (go_quiet (fail); try go_wp2)
  go_ret
  exact ⟨by first | rfl | (simp; done) | (simp [*]; done), by repeat (first | exact Drawn0.refl _ | apply Drawn0.step)⟩
 
 rw [if_pos c3] at H
 have c3b0 : ((l0.length : Int) == (l1.length : Int)) = true := beq_iff_eq.mpr c3
 have c3b1 : ((l0.length : Int) != (l1.length : Int)) = false := bne_eq_false_iff_eq.mpr c3
 have c3b2 : (l0.length == l1.length) = true := by first | simpa using c3 | (simp at c3 ⊢; omega)
 clear c3
 have H' := Aside0.mk H
 clear H
 go_enter Tryd.func20, Tryd.ntmps20
 go_wp2
 repeat (go_quiet (fail); try go_wp2)
 go_loopg [5] k (fun kq v5 w' => ∃ (x5_1 : Int), v5 = .int .i64 x5_1 ∧ Aside0 (withyref04_Same.l0 kq l0 l1 x5_1 = some r) ∧ Aside0 (kq ≤ k) ∧ Drawn0 w w')
 case atStart => exact ⟨(0), (by first | rfl | (simp; done) | (simp [*]; done)), H', ⟨Nat.le_refl _⟩, by repeat (first | exact Drawn0.refl _ | apply Drawn0.step)⟩
 case round =>
  clear H'
  try clear c1
  try clear c2
  try clear p2
  try clear c3
  try clear c3b0
  try clear c3b1
  try clear c3b2
  obtain ⟨x5_1, rfl, HA, HK1, ⟨m1, rfl⟩⟩ := hrel
  cases gk with
  | zero => exact absurd HA.out (by simp [withyref04_Same.l0])
  | succ k1 =>
   have H := HA.out
   clear HA
   simp only [withyref04_Same.l0] at H
   by_cases c4 : x5_1 < (l0.length : Int)
   rotate_left
   ·rw [if_neg c4] at H
    have c4b0 : decide (x5_1 < (l0.length : Int)) = false := decide_eq_false c4
    clear c4
    obtain rfl := Option.some.inj H
    go_wp2
    repeat (go_quiet (fail); try go_wp2)
    go_ret
    exact ⟨by first | rfl | (simp; done) | (simp [*]; done), by repeat (first | exact Drawn0.refl _ | apply Drawn0.step)⟩
   rw [if_pos c4] at H
   have c4b0 : decide (x5_1 < (l0.length : Int)) = true := decide_eq_true c4
   clear c4
   by_cases c5 : 0 ≤ x5_1
   rotate_left
   ·rw [if_neg c5] at H
    exact absurd H (by simp)
   rw [if_pos c5] at H
   have c5b0 : decide (0 ≤ x5_1) = true := decide_eq_true c5
   clear c5
   by_cases c6 : x5_1 < (l1.length : Int)
   rotate_left
   ·rw [if_neg c6] at H
    exact absurd H (by simp)
   rw [if_pos c6] at H
   have c6b0 : decide (x5_1 < (l1.length : Int)) = true := decide_eq_true c6
   clear c6
   by_cases c7 : (!(((rd_T56 l0 x5_1).f0) == ((rd_T56 l1 x5_1).f0)) || (!(((rd_T56 l0 x5_1).f1) == ((rd_T56 l1 x5_1).f1)) || (!(((rd_T56 l0 x5_1).f2) == ((rd_T56 l1 x5_1).f2)) || (!((((rd_T56 l0 x5_1).f3).toList) == (((rd_T56 l1 x5_1).f3).toList)))))) = true
   ·rw [if_pos c7] at H
    have c7b0 : (!(((rd_T56 l0 x5_1).f0) == ((rd_T56 l1 x5_1).f0)) || (!(((rd_T56 l0 x5_1).f1) == ((rd_T56 l1 x5_1).f1)) || (!(((rd_T56 l0 x5_1).f2) == ((rd_T56 l1 x5_1).f2)) || (!((((rd_T56 l0 x5_1).f3).toList) == (((rd_T56 l1 x5_1).f3).toList)))))) = true := c7
    (try (have c7b8 : ((rd_T56 l0 x5_1).f0 = (rd_T56 l1 x5_1).f0 ∧ (rd_T56 l0 x5_1).f1 = (rd_T56 l1 x5_1).f1 ∧ (rd_T56 l0 x5_1).f2 = (rd_T56 l1 x5_1).f2 ∧ ((rd_T56 l0 x5_1).f3).toList = ((rd_T56 l1 x5_1).f3).toList) = False := eq_false (by simpa using c7)))
    clear c7
    obtain rfl := Option.some.inj H
    have p237 : 0 ≤ (x5_1 : Int) := of_decide_eq_true aM
    have q237 : x5_1 < (l0.length : Int) := of_decide_eq_true aM
    obtain ⟨ad237, e237, hx237_0, hx237_1, hx237_2, hx237_3⟩ := at_T56 HR0.out x5_1 p237 q237
    cases e237
    replace p237 := eq_true p237
    replace q237 := eq_true q237
    have p238 : 0 ≤ (x5_1 : Int) := of_decide_eq_true aM
    have q238 : x5_1 < (l1.length : Int) := of_decide_eq_true aM
    obtain ⟨ad238, e238, hx238_0, hx238_1, hx238_2, hx238_3⟩ := at_T56 HR1.out x5_1 p238 q238
    cases e238
    replace p238 := eq_true p238
    replace q238 := eq_true q238
    go_wp2
    repeat (go_quiet (fail); try go_wp2)
    go_ret
    exact ⟨by first | rfl | (simp; done) | (simp [*]; done), by repeat (first | exact Drawn0.refl _ | apply Drawn0.step)⟩
   ·rw [if_neg c7] at H
    have c7b0 : (!(((rd_T56 l0 x5_1).f0) == ((rd_T56 l1 x5_1).f0)) || (!(((rd_T56 l0 x5_1).f1) == ((rd_T56 l1 x5_1).f1)) || (!(((rd_T56 l0 x5_1).f2) == ((rd_T56 l1 x5_1).f2)) || (!((((rd_T56 l0 x5_1).f3).toList) == (((rd_T56 l1 x5_1).f3).toList)))))) = false := by simpa using c7
    (try (have c7b8 : ((rd_T56 l0 x5_1).f0 = (rd_T56 l1 x5_1).f0 ∧ (rd_T56 l0 x5_1).f1 = (rd_T56 l1 x5_1).f1 ∧ (rd_T56 l0 x5_1).f2 = (rd_T56 l1 x5_1).f2 ∧ ((rd_T56 l0 x5_1).f3).toList = ((rd_T56 l1 x5_1).f3).toList) = True := eq_true (by simpa using c7)))
    clear c7
    have H' := Aside0.mk H
    clear H
    have p237 : 0 ≤ (x5_1 : Int) := of_decide_eq_true aM
    have q237 : x5_1 < (l0.length : Int) := of_decide_eq_true aM
    obtain ⟨ad237, e237, hx237_0, hx237_1, hx237_2, hx237_3⟩ := at_T56 HR0.out x5_1 p237 q237
    cases e237
    replace p237 := eq_true p237
    replace q237 := eq_true q237
    have p238 : 0 ≤ (x5_1 : Int) := of_decide_eq_true aM
    have q238 : x5_1 < (l1.length : Int) := of_decide_eq_true aM
    obtain ⟨ad238, e238, hx238_0, hx238_1, hx238_2, hx238_3⟩ := at_T56 HR1.out x5_1 p238 q238
    cases e238
    replace p238 := eq_true p238
    replace q238 := eq_true q238
    go_wp2
    repeat (go_quiet (fail); try go_wp2)
    go_roundg k1
    case measure => have := HK1.out; omega
    case rel => exact ⟨(wrap64 (x5_1 + 1)), (by first | rfl | (simp; done) | (simp [*]; done)), H', ⟨by have := HK1.out; omega⟩, by repeat (first | exact Drawn0.refl _ | apply Drawn0.step)⟩
/-! ### withylaw04_fixed: function 21 -/
def withylaw04_fixed.f (k : Nat)  : Option (Bool) := (key_Put.f k (([(⟨0, 0, 0, (⟨#[]⟩ : ByteArray)⟩ : S51), (⟨1, 0, 1, (⟨#[]⟩ : ByteArray)⟩ : S51)] : List (S51)))).bind fun bt243 => ((key_Put.f k ([] : List (S51))).bind fun bt245 => ((key_Put.f k (([(⟨9, 0, 0, (⟨#[]⟩ : ByteArray)⟩ : S51)] : List (S51)))).bind fun bt250 => ((key_Get.f k (⟨#[16, 33, 1]⟩ : ByteArray)).bind fun bt252 => ((key_Get.f k (⟨#[1]⟩ : ByteArray)).bind fun bt256 => ((key_Get.f k (⟨#[16, 1, 16]⟩ : ByteArray)).bind fun bt260 => ((key_Get.f k (⟨#[16]⟩ : ByteArray)).bind fun bt264 => ((key_Get.f k (⟨#[5, 1]⟩ : ByteArray)).bind fun bt268 => ((key_Part.f k (⟨#[16, 33, 1]⟩ : ByteArray) 1).bind fun bt272 => ((key_Part.f k (⟨#[16, 33, 1]⟩ : ByteArray) 3).bind fun bt274 => (if bt243.1.toList = ([16, 33, 1] : List UInt8) then (if bt243.2 = 0 then (if bt245.1.toList = ([1] : List UInt8) then (if bt245.2 = 0 then (if bt250.2 = 3 then ((withylaw04_Ref.f k bt252.1).bind fun t276 => ((withyref04_Same.f k t276 (([(⟨0, 0, 0, (⟨#[]⟩ : ByteArray)⟩ : S56), (⟨1, 0, 1, (⟨#[]⟩ : ByteArray)⟩ : S56)] : List (S56)))).bind fun t282 => (if t282 = true then (if bt252.2 = 0 then (if (bt256.1.length : Int) = 0 then (if bt256.2 = 0 then (if bt260.2 = 3 then (if bt264.2 = 7 then (if bt268.2 = 3 then (if bt272.1.toList = ([16] : List UInt8) then (if bt272.2 = 0 then (if bt274.2 = 4 then (if 1 ≤ (bt252.1.length : Int) then ((key_Compare.f k bt252.1 (bt252.1.take 1)).bind fun t287 => (if t287 = 1 then ((key_Compare.f k ([] : List (S51)) bt252.1).bind fun t288 => (if t288 = (-1) then ((key_Compare.f k bt252.1 bt252.1).bind fun t289 => (some (t289 == 0))) else (none))) else (none))) else (none)) else (none)) else (none)) else (none)) else (none)) else (none)) else (none)) else (none)) else (none)) else (none)) else (none)))) else (none)) else (none)) else (none)) else (none)) else (none)))))))))))
theorem withylaw04_fixed.mono : ∀ k, LeO (withylaw04_fixed.f k ) (withylaw04_fixed.f (k + 1) ) := by
 intro  k
 unfold withylaw04_fixed.f
 repeat' first
   | (with_reducible exact key_Compare.mono _ _ _)
   | (with_reducible exact key_Get.mono _ _)
   | (with_reducible exact key_Part.mono _ _ _)
   | (with_reducible exact key_Put.mono _ _)
   | (with_reducible exact withylaw04_Ref.mono _ _)
   | (with_reducible exact withyref04_Same.mono _ _ _)
   | (with_reducible exact LeO.refl _)
   | (with_reducible exact LeO.none _)
   | (with_reducible refine LeO.ite ?_ ?_)
   | (with_reducible refine LeO.bind ?_ (fun _ => ?_))
   | exact key_Compare.mono _ _ _
   | exact key_Get.mono _ _
   | exact key_Part.mono _ _ _
   | exact key_Put.mono _ _
   | exact withylaw04_Ref.mono _ _
   | exact withyref04_Same.mono _ _ _
   | exact LeO.none _
   | refine LeO.ite ?_ ?_
   | refine LeO.bind ?_ (fun _ => ?_)
set_option maxHeartbeats 8000000 in
set_option maxRecDepth 100000 in
theorem withylaw04_fixed.calls (k : Nat)  (r : Bool) (w : World) (h : withylaw04_fixed.f k  = some r) :
  Calls Tryd.prog 21 #[] w fun e w' => e = .returned (.bool r) ∧ Below w.heap.size w w' := by
 have hu51 := Tryd.underlying51
 have hu56 := Tryd.underlying56
 have HB := as_ (Below.refl w.heap.size w)
 have H : ((key_Put.f k (([(⟨0, 0, 0, (⟨#[]⟩ : ByteArray)⟩ : S51), (⟨1, 0, 1, (⟨#[]⟩ : ByteArray)⟩ : S51)] : List (S51)))).bind fun bt243 => ((key_Put.f k ([] : List (S51))).bind fun bt245 => ((key_Put.f k (([(⟨9, 0, 0, (⟨#[]⟩ : ByteArray)⟩ : S51)] : List (S51)))).bind fun bt250 => ((key_Get.f k (⟨#[16, 33, 1]⟩ : ByteArray)).bind fun bt252 => ((key_Get.f k (⟨#[1]⟩ : ByteArray)).bind fun bt256 => ((key_Get.f k (⟨#[16, 1, 16]⟩ : ByteArray)).bind fun bt260 => ((key_Get.f k (⟨#[16]⟩ : ByteArray)).bind fun bt264 => ((key_Get.f k (⟨#[5, 1]⟩ : ByteArray)).bind fun bt268 => ((key_Part.f k (⟨#[16, 33, 1]⟩ : ByteArray) 1).bind fun bt272 => ((key_Part.f k (⟨#[16, 33, 1]⟩ : ByteArray) 3).bind fun bt274 => (if bt243.1.toList = ([16, 33, 1] : List UInt8) then (if bt243.2 = 0 then (if bt245.1.toList = ([1] : List UInt8) then (if bt245.2 = 0 then (if bt250.2 = 3 then ((withylaw04_Ref.f k bt252.1).bind fun t276 => ((withyref04_Same.f k t276 (([(⟨0, 0, 0, (⟨#[]⟩ : ByteArray)⟩ : S56), (⟨1, 0, 1, (⟨#[]⟩ : ByteArray)⟩ : S56)] : List (S56)))).bind fun t282 => (if t282 = true then (if bt252.2 = 0 then (if (bt256.1.length : Int) = 0 then (if bt256.2 = 0 then (if bt260.2 = 3 then (if bt264.2 = 7 then (if bt268.2 = 3 then (if bt272.1.toList = ([16] : List UInt8) then (if bt272.2 = 0 then (if bt274.2 = 4 then (if 1 ≤ (bt252.1.length : Int) then ((key_Compare.f k bt252.1 (bt252.1.take 1)).bind fun t287 => (if t287 = 1 then ((key_Compare.f k ([] : List (S51)) bt252.1).bind fun t288 => (if t288 = (-1) then ((key_Compare.f k bt252.1 bt252.1).bind fun t289 => (some (t289 == 0))) else (none))) else (none))) else (none)) else (none)) else (none)) else (none)) else (none)) else (none)) else (none)) else (none)) else (none)) else (none)) else (none)))) else (none)) else (none)) else (none)) else (none)) else (none)))))))))))) = some r := h
 clear h
 obtain ⟨y240, hy240⟩ : ∃ y_ : List (S51), y_ = (([(⟨0, 0, 0, (⟨#[]⟩ : ByteArray)⟩ : S51), (⟨1, 0, 1, (⟨#[]⟩ : ByteArray)⟩ : S51)] : List (S51))) := ⟨_, rfl⟩
 replace H : ((key_Put.f k y240).bind fun bt243 => ((key_Put.f k ([] : List (S51))).bind fun bt245 => ((key_Put.f k (([(⟨9, 0, 0, (⟨#[]⟩ : ByteArray)⟩ : S51)] : List (S51)))).bind fun bt250 => ((key_Get.f k (⟨#[16, 33, 1]⟩ : ByteArray)).bind fun bt252 => ((key_Get.f k (⟨#[1]⟩ : ByteArray)).bind fun bt256 => ((key_Get.f k (⟨#[16, 1, 16]⟩ : ByteArray)).bind fun bt260 => ((key_Get.f k (⟨#[16]⟩ : ByteArray)).bind fun bt264 => ((key_Get.f k (⟨#[5, 1]⟩ : ByteArray)).bind fun bt268 => ((key_Part.f k (⟨#[16, 33, 1]⟩ : ByteArray) 1).bind fun bt272 => ((key_Part.f k (⟨#[16, 33, 1]⟩ : ByteArray) 3).bind fun bt274 => (if bt243.1.toList = ([16, 33, 1] : List UInt8) then (if bt243.2 = 0 then (if bt245.1.toList = ([1] : List UInt8) then (if bt245.2 = 0 then (if bt250.2 = 3 then ((withylaw04_Ref.f k bt252.1).bind fun t276 => ((withyref04_Same.f k t276 (([(⟨0, 0, 0, (⟨#[]⟩ : ByteArray)⟩ : S56), (⟨1, 0, 1, (⟨#[]⟩ : ByteArray)⟩ : S56)] : List (S56)))).bind fun t282 => (if t282 = true then (if bt252.2 = 0 then (if (bt256.1.length : Int) = 0 then (if bt256.2 = 0 then (if bt260.2 = 3 then (if bt264.2 = 7 then (if bt268.2 = 3 then (if bt272.1.toList = ([16] : List UInt8) then (if bt272.2 = 0 then (if bt274.2 = 4 then (if 1 ≤ (bt252.1.length : Int) then ((key_Compare.f k bt252.1 (bt252.1.take 1)).bind fun t287 => (if t287 = 1 then ((key_Compare.f k ([] : List (S51)) bt252.1).bind fun t288 => (if t288 = (-1) then ((key_Compare.f k bt252.1 bt252.1).bind fun t289 => (some (t289 == 0))) else (none))) else (none))) else (none)) else (none)) else (none)) else (none)) else (none)) else (none)) else (none)) else (none)) else (none)) else (none)) else (none)))) else (none)) else (none)) else (none)) else (none)) else (none)))))))))))) = some r := by first | (rw [hy240]; with_reducible exact H) | (have H2_ := (Option.bind_some _ _).symm.trans H; rw [hy240]; with_reducible exact H2_) | (have H2_ := (Option.bind_some _ _).symm.trans H; with_reducible exact H2_) | with_reducible exact H | (rw [hy240]; exact H) | exact H
 have Ny240 := Aside0.mk hy240
 clear hy240
 replace H := bM H
 obtain ⟨⟨t243, t244⟩, A10, H⟩ := H
 replace H : ((key_Put.f k ([] : List (S51))).bind fun bt245 => ((key_Put.f k (([(⟨9, 0, 0, (⟨#[]⟩ : ByteArray)⟩ : S51)] : List (S51)))).bind fun bt250 => ((key_Get.f k (⟨#[16, 33, 1]⟩ : ByteArray)).bind fun bt252 => ((key_Get.f k (⟨#[1]⟩ : ByteArray)).bind fun bt256 => ((key_Get.f k (⟨#[16, 1, 16]⟩ : ByteArray)).bind fun bt260 => ((key_Get.f k (⟨#[16]⟩ : ByteArray)).bind fun bt264 => ((key_Get.f k (⟨#[5, 1]⟩ : ByteArray)).bind fun bt268 => ((key_Part.f k (⟨#[16, 33, 1]⟩ : ByteArray) 1).bind fun bt272 => ((key_Part.f k (⟨#[16, 33, 1]⟩ : ByteArray) 3).bind fun bt274 => (if t243.toList = ([16, 33, 1] : List UInt8) then (if t244 = 0 then (if bt245.1.toList = ([1] : List UInt8) then (if bt245.2 = 0 then (if bt250.2 = 3 then ((withylaw04_Ref.f k bt252.1).bind fun t276 => ((withyref04_Same.f k t276 (([(⟨0, 0, 0, (⟨#[]⟩ : ByteArray)⟩ : S56), (⟨1, 0, 1, (⟨#[]⟩ : ByteArray)⟩ : S56)] : List (S56)))).bind fun t282 => (if t282 = true then (if bt252.2 = 0 then (if (bt256.1.length : Int) = 0 then (if bt256.2 = 0 then (if bt260.2 = 3 then (if bt264.2 = 7 then (if bt268.2 = 3 then (if bt272.1.toList = ([16] : List UInt8) then (if bt272.2 = 0 then (if bt274.2 = 4 then (if 1 ≤ (bt252.1.length : Int) then ((key_Compare.f k bt252.1 (bt252.1.take 1)).bind fun t287 => (if t287 = 1 then ((key_Compare.f k ([] : List (S51)) bt252.1).bind fun t288 => (if t288 = (-1) then ((key_Compare.f k bt252.1 bt252.1).bind fun t289 => (some (t289 == 0))) else (none))) else (none))) else (none)) else (none)) else (none)) else (none)) else (none)) else (none)) else (none)) else (none)) else (none)) else (none)) else (none)))) else (none)) else (none)) else (none)) else (none)) else (none))))))))))) = some r := H
 have A1 := Aside0.mk A10
 clear A10
 replace H := bM H
 obtain ⟨⟨t245, t246⟩, A20, H⟩ := H
 replace H : ((key_Put.f k (([(⟨9, 0, 0, (⟨#[]⟩ : ByteArray)⟩ : S51)] : List (S51)))).bind fun bt250 => ((key_Get.f k (⟨#[16, 33, 1]⟩ : ByteArray)).bind fun bt252 => ((key_Get.f k (⟨#[1]⟩ : ByteArray)).bind fun bt256 => ((key_Get.f k (⟨#[16, 1, 16]⟩ : ByteArray)).bind fun bt260 => ((key_Get.f k (⟨#[16]⟩ : ByteArray)).bind fun bt264 => ((key_Get.f k (⟨#[5, 1]⟩ : ByteArray)).bind fun bt268 => ((key_Part.f k (⟨#[16, 33, 1]⟩ : ByteArray) 1).bind fun bt272 => ((key_Part.f k (⟨#[16, 33, 1]⟩ : ByteArray) 3).bind fun bt274 => (if t243.toList = ([16, 33, 1] : List UInt8) then (if t244 = 0 then (if t245.toList = ([1] : List UInt8) then (if t246 = 0 then (if bt250.2 = 3 then ((withylaw04_Ref.f k bt252.1).bind fun t276 => ((withyref04_Same.f k t276 (([(⟨0, 0, 0, (⟨#[]⟩ : ByteArray)⟩ : S56), (⟨1, 0, 1, (⟨#[]⟩ : ByteArray)⟩ : S56)] : List (S56)))).bind fun t282 => (if t282 = true then (if bt252.2 = 0 then (if (bt256.1.length : Int) = 0 then (if bt256.2 = 0 then (if bt260.2 = 3 then (if bt264.2 = 7 then (if bt268.2 = 3 then (if bt272.1.toList = ([16] : List UInt8) then (if bt272.2 = 0 then (if bt274.2 = 4 then (if 1 ≤ (bt252.1.length : Int) then ((key_Compare.f k bt252.1 (bt252.1.take 1)).bind fun t287 => (if t287 = 1 then ((key_Compare.f k ([] : List (S51)) bt252.1).bind fun t288 => (if t288 = (-1) then ((key_Compare.f k bt252.1 bt252.1).bind fun t289 => (some (t289 == 0))) else (none))) else (none))) else (none)) else (none)) else (none)) else (none)) else (none)) else (none)) else (none)) else (none)) else (none)) else (none)) else (none)))) else (none)) else (none)) else (none)) else (none)) else (none)))))))))) = some r := H
 have A2 := Aside0.mk A20
 clear A20
 obtain ⟨y247, hy247⟩ : ∃ y_ : List (S51), y_ = (([(⟨9, 0, 0, (⟨#[]⟩ : ByteArray)⟩ : S51)] : List (S51))) := ⟨_, rfl⟩
 replace H : ((key_Put.f k y247).bind fun bt250 => ((key_Get.f k (⟨#[16, 33, 1]⟩ : ByteArray)).bind fun bt252 => ((key_Get.f k (⟨#[1]⟩ : ByteArray)).bind fun bt256 => ((key_Get.f k (⟨#[16, 1, 16]⟩ : ByteArray)).bind fun bt260 => ((key_Get.f k (⟨#[16]⟩ : ByteArray)).bind fun bt264 => ((key_Get.f k (⟨#[5, 1]⟩ : ByteArray)).bind fun bt268 => ((key_Part.f k (⟨#[16, 33, 1]⟩ : ByteArray) 1).bind fun bt272 => ((key_Part.f k (⟨#[16, 33, 1]⟩ : ByteArray) 3).bind fun bt274 => (if t243.toList = ([16, 33, 1] : List UInt8) then (if t244 = 0 then (if t245.toList = ([1] : List UInt8) then (if t246 = 0 then (if bt250.2 = 3 then ((withylaw04_Ref.f k bt252.1).bind fun t276 => ((withyref04_Same.f k t276 (([(⟨0, 0, 0, (⟨#[]⟩ : ByteArray)⟩ : S56), (⟨1, 0, 1, (⟨#[]⟩ : ByteArray)⟩ : S56)] : List (S56)))).bind fun t282 => (if t282 = true then (if bt252.2 = 0 then (if (bt256.1.length : Int) = 0 then (if bt256.2 = 0 then (if bt260.2 = 3 then (if bt264.2 = 7 then (if bt268.2 = 3 then (if bt272.1.toList = ([16] : List UInt8) then (if bt272.2 = 0 then (if bt274.2 = 4 then (if 1 ≤ (bt252.1.length : Int) then ((key_Compare.f k bt252.1 (bt252.1.take 1)).bind fun t287 => (if t287 = 1 then ((key_Compare.f k ([] : List (S51)) bt252.1).bind fun t288 => (if t288 = (-1) then ((key_Compare.f k bt252.1 bt252.1).bind fun t289 => (some (t289 == 0))) else (none))) else (none))) else (none)) else (none)) else (none)) else (none)) else (none)) else (none)) else (none)) else (none)) else (none)) else (none)) else (none)))) else (none)) else (none)) else (none)) else (none)) else (none)))))))))) = some r := by first | (rw [hy247]; with_reducible exact H) | (have H2_ := (Option.bind_some _ _).symm.trans H; rw [hy247]; with_reducible exact H2_) | (have H2_ := (Option.bind_some _ _).symm.trans H; with_reducible exact H2_) | with_reducible exact H | (rw [hy247]; exact H) | exact H
 have Ny247 := Aside0.mk hy247
 clear hy247
 replace H := bM H
 obtain ⟨⟨t250, t251⟩, A30, H⟩ := H
 replace H : ((key_Get.f k (⟨#[16, 33, 1]⟩ : ByteArray)).bind fun bt252 => ((key_Get.f k (⟨#[1]⟩ : ByteArray)).bind fun bt256 => ((key_Get.f k (⟨#[16, 1, 16]⟩ : ByteArray)).bind fun bt260 => ((key_Get.f k (⟨#[16]⟩ : ByteArray)).bind fun bt264 => ((key_Get.f k (⟨#[5, 1]⟩ : ByteArray)).bind fun bt268 => ((key_Part.f k (⟨#[16, 33, 1]⟩ : ByteArray) 1).bind fun bt272 => ((key_Part.f k (⟨#[16, 33, 1]⟩ : ByteArray) 3).bind fun bt274 => (if t243.toList = ([16, 33, 1] : List UInt8) then (if t244 = 0 then (if t245.toList = ([1] : List UInt8) then (if t246 = 0 then (if t251 = 3 then ((withylaw04_Ref.f k bt252.1).bind fun t276 => ((withyref04_Same.f k t276 (([(⟨0, 0, 0, (⟨#[]⟩ : ByteArray)⟩ : S56), (⟨1, 0, 1, (⟨#[]⟩ : ByteArray)⟩ : S56)] : List (S56)))).bind fun t282 => (if t282 = true then (if bt252.2 = 0 then (if (bt256.1.length : Int) = 0 then (if bt256.2 = 0 then (if bt260.2 = 3 then (if bt264.2 = 7 then (if bt268.2 = 3 then (if bt272.1.toList = ([16] : List UInt8) then (if bt272.2 = 0 then (if bt274.2 = 4 then (if 1 ≤ (bt252.1.length : Int) then ((key_Compare.f k bt252.1 (bt252.1.take 1)).bind fun t287 => (if t287 = 1 then ((key_Compare.f k ([] : List (S51)) bt252.1).bind fun t288 => (if t288 = (-1) then ((key_Compare.f k bt252.1 bt252.1).bind fun t289 => (some (t289 == 0))) else (none))) else (none))) else (none)) else (none)) else (none)) else (none)) else (none)) else (none)) else (none)) else (none)) else (none)) else (none)) else (none)))) else (none)) else (none)) else (none)) else (none)) else (none))))))))) = some r := H
 have A3 := Aside0.mk A30
 clear A30
 replace H := bM H
 obtain ⟨⟨t252, t253⟩, A40, H⟩ := H
 replace H : ((key_Get.f k (⟨#[1]⟩ : ByteArray)).bind fun bt256 => ((key_Get.f k (⟨#[16, 1, 16]⟩ : ByteArray)).bind fun bt260 => ((key_Get.f k (⟨#[16]⟩ : ByteArray)).bind fun bt264 => ((key_Get.f k (⟨#[5, 1]⟩ : ByteArray)).bind fun bt268 => ((key_Part.f k (⟨#[16, 33, 1]⟩ : ByteArray) 1).bind fun bt272 => ((key_Part.f k (⟨#[16, 33, 1]⟩ : ByteArray) 3).bind fun bt274 => (if t243.toList = ([16, 33, 1] : List UInt8) then (if t244 = 0 then (if t245.toList = ([1] : List UInt8) then (if t246 = 0 then (if t251 = 3 then ((withylaw04_Ref.f k t252).bind fun t276 => ((withyref04_Same.f k t276 (([(⟨0, 0, 0, (⟨#[]⟩ : ByteArray)⟩ : S56), (⟨1, 0, 1, (⟨#[]⟩ : ByteArray)⟩ : S56)] : List (S56)))).bind fun t282 => (if t282 = true then (if t253 = 0 then (if (bt256.1.length : Int) = 0 then (if bt256.2 = 0 then (if bt260.2 = 3 then (if bt264.2 = 7 then (if bt268.2 = 3 then (if bt272.1.toList = ([16] : List UInt8) then (if bt272.2 = 0 then (if bt274.2 = 4 then (if 1 ≤ (t252.length : Int) then ((key_Compare.f k t252 (t252.take 1)).bind fun t287 => (if t287 = 1 then ((key_Compare.f k ([] : List (S51)) t252).bind fun t288 => (if t288 = (-1) then ((key_Compare.f k t252 t252).bind fun t289 => (some (t289 == 0))) else (none))) else (none))) else (none)) else (none)) else (none)) else (none)) else (none)) else (none)) else (none)) else (none)) else (none)) else (none)) else (none)))) else (none)) else (none)) else (none)) else (none)) else (none)))))))) = some r := H
 have A4 := Aside0.mk A40
 clear A40
 replace H := bM H
 obtain ⟨⟨t256, t257⟩, A50, H⟩ := H
 replace H : ((key_Get.f k (⟨#[16, 1, 16]⟩ : ByteArray)).bind fun bt260 => ((key_Get.f k (⟨#[16]⟩ : ByteArray)).bind fun bt264 => ((key_Get.f k (⟨#[5, 1]⟩ : ByteArray)).bind fun bt268 => ((key_Part.f k (⟨#[16, 33, 1]⟩ : ByteArray) 1).bind fun bt272 => ((key_Part.f k (⟨#[16, 33, 1]⟩ : ByteArray) 3).bind fun bt274 => (if t243.toList = ([16, 33, 1] : List UInt8) then (if t244 = 0 then (if t245.toList = ([1] : List UInt8) then (if t246 = 0 then (if t251 = 3 then ((withylaw04_Ref.f k t252).bind fun t276 => ((withyref04_Same.f k t276 (([(⟨0, 0, 0, (⟨#[]⟩ : ByteArray)⟩ : S56), (⟨1, 0, 1, (⟨#[]⟩ : ByteArray)⟩ : S56)] : List (S56)))).bind fun t282 => (if t282 = true then (if t253 = 0 then (if (t256.length : Int) = 0 then (if t257 = 0 then (if bt260.2 = 3 then (if bt264.2 = 7 then (if bt268.2 = 3 then (if bt272.1.toList = ([16] : List UInt8) then (if bt272.2 = 0 then (if bt274.2 = 4 then (if 1 ≤ (t252.length : Int) then ((key_Compare.f k t252 (t252.take 1)).bind fun t287 => (if t287 = 1 then ((key_Compare.f k ([] : List (S51)) t252).bind fun t288 => (if t288 = (-1) then ((key_Compare.f k t252 t252).bind fun t289 => (some (t289 == 0))) else (none))) else (none))) else (none)) else (none)) else (none)) else (none)) else (none)) else (none)) else (none)) else (none)) else (none)) else (none)) else (none)))) else (none)) else (none)) else (none)) else (none)) else (none))))))) = some r := H
 have A5 := Aside0.mk A50
 clear A50
 replace H := bM H
 obtain ⟨⟨t260, t261⟩, A60, H⟩ := H
 replace H : ((key_Get.f k (⟨#[16]⟩ : ByteArray)).bind fun bt264 => ((key_Get.f k (⟨#[5, 1]⟩ : ByteArray)).bind fun bt268 => ((key_Part.f k (⟨#[16, 33, 1]⟩ : ByteArray) 1).bind fun bt272 => ((key_Part.f k (⟨#[16, 33, 1]⟩ : ByteArray) 3).bind fun bt274 => (if t243.toList = ([16, 33, 1] : List UInt8) then (if t244 = 0 then (if t245.toList = ([1] : List UInt8) then (if t246 = 0 then (if t251 = 3 then ((withylaw04_Ref.f k t252).bind fun t276 => ((withyref04_Same.f k t276 (([(⟨0, 0, 0, (⟨#[]⟩ : ByteArray)⟩ : S56), (⟨1, 0, 1, (⟨#[]⟩ : ByteArray)⟩ : S56)] : List (S56)))).bind fun t282 => (if t282 = true then (if t253 = 0 then (if (t256.length : Int) = 0 then (if t257 = 0 then (if t261 = 3 then (if bt264.2 = 7 then (if bt268.2 = 3 then (if bt272.1.toList = ([16] : List UInt8) then (if bt272.2 = 0 then (if bt274.2 = 4 then (if 1 ≤ (t252.length : Int) then ((key_Compare.f k t252 (t252.take 1)).bind fun t287 => (if t287 = 1 then ((key_Compare.f k ([] : List (S51)) t252).bind fun t288 => (if t288 = (-1) then ((key_Compare.f k t252 t252).bind fun t289 => (some (t289 == 0))) else (none))) else (none))) else (none)) else (none)) else (none)) else (none)) else (none)) else (none)) else (none)) else (none)) else (none)) else (none)) else (none)))) else (none)) else (none)) else (none)) else (none)) else (none)))))) = some r := H
 have A6 := Aside0.mk A60
 clear A60
 replace H := bM H
 obtain ⟨⟨t264, t265⟩, A70, H⟩ := H
 replace H : ((key_Get.f k (⟨#[5, 1]⟩ : ByteArray)).bind fun bt268 => ((key_Part.f k (⟨#[16, 33, 1]⟩ : ByteArray) 1).bind fun bt272 => ((key_Part.f k (⟨#[16, 33, 1]⟩ : ByteArray) 3).bind fun bt274 => (if t243.toList = ([16, 33, 1] : List UInt8) then (if t244 = 0 then (if t245.toList = ([1] : List UInt8) then (if t246 = 0 then (if t251 = 3 then ((withylaw04_Ref.f k t252).bind fun t276 => ((withyref04_Same.f k t276 (([(⟨0, 0, 0, (⟨#[]⟩ : ByteArray)⟩ : S56), (⟨1, 0, 1, (⟨#[]⟩ : ByteArray)⟩ : S56)] : List (S56)))).bind fun t282 => (if t282 = true then (if t253 = 0 then (if (t256.length : Int) = 0 then (if t257 = 0 then (if t261 = 3 then (if t265 = 7 then (if bt268.2 = 3 then (if bt272.1.toList = ([16] : List UInt8) then (if bt272.2 = 0 then (if bt274.2 = 4 then (if 1 ≤ (t252.length : Int) then ((key_Compare.f k t252 (t252.take 1)).bind fun t287 => (if t287 = 1 then ((key_Compare.f k ([] : List (S51)) t252).bind fun t288 => (if t288 = (-1) then ((key_Compare.f k t252 t252).bind fun t289 => (some (t289 == 0))) else (none))) else (none))) else (none)) else (none)) else (none)) else (none)) else (none)) else (none)) else (none)) else (none)) else (none)) else (none)) else (none)))) else (none)) else (none)) else (none)) else (none)) else (none))))) = some r := H
 have A7 := Aside0.mk A70
 clear A70
 replace H := bM H
 obtain ⟨⟨t268, t269⟩, A80, H⟩ := H
 replace H : ((key_Part.f k (⟨#[16, 33, 1]⟩ : ByteArray) 1).bind fun bt272 => ((key_Part.f k (⟨#[16, 33, 1]⟩ : ByteArray) 3).bind fun bt274 => (if t243.toList = ([16, 33, 1] : List UInt8) then (if t244 = 0 then (if t245.toList = ([1] : List UInt8) then (if t246 = 0 then (if t251 = 3 then ((withylaw04_Ref.f k t252).bind fun t276 => ((withyref04_Same.f k t276 (([(⟨0, 0, 0, (⟨#[]⟩ : ByteArray)⟩ : S56), (⟨1, 0, 1, (⟨#[]⟩ : ByteArray)⟩ : S56)] : List (S56)))).bind fun t282 => (if t282 = true then (if t253 = 0 then (if (t256.length : Int) = 0 then (if t257 = 0 then (if t261 = 3 then (if t265 = 7 then (if t269 = 3 then (if bt272.1.toList = ([16] : List UInt8) then (if bt272.2 = 0 then (if bt274.2 = 4 then (if 1 ≤ (t252.length : Int) then ((key_Compare.f k t252 (t252.take 1)).bind fun t287 => (if t287 = 1 then ((key_Compare.f k ([] : List (S51)) t252).bind fun t288 => (if t288 = (-1) then ((key_Compare.f k t252 t252).bind fun t289 => (some (t289 == 0))) else (none))) else (none))) else (none)) else (none)) else (none)) else (none)) else (none)) else (none)) else (none)) else (none)) else (none)) else (none)) else (none)))) else (none)) else (none)) else (none)) else (none)) else (none)))) = some r := H
 have A8 := Aside0.mk A80
 clear A80
 replace H := bM H
 obtain ⟨⟨t272, t273⟩, A90, H⟩ := H
 replace H : ((key_Part.f k (⟨#[16, 33, 1]⟩ : ByteArray) 3).bind fun bt274 => (if t243.toList = ([16, 33, 1] : List UInt8) then (if t244 = 0 then (if t245.toList = ([1] : List UInt8) then (if t246 = 0 then (if t251 = 3 then ((withylaw04_Ref.f k t252).bind fun t276 => ((withyref04_Same.f k t276 (([(⟨0, 0, 0, (⟨#[]⟩ : ByteArray)⟩ : S56), (⟨1, 0, 1, (⟨#[]⟩ : ByteArray)⟩ : S56)] : List (S56)))).bind fun t282 => (if t282 = true then (if t253 = 0 then (if (t256.length : Int) = 0 then (if t257 = 0 then (if t261 = 3 then (if t265 = 7 then (if t269 = 3 then (if t272.toList = ([16] : List UInt8) then (if t273 = 0 then (if bt274.2 = 4 then (if 1 ≤ (t252.length : Int) then ((key_Compare.f k t252 (t252.take 1)).bind fun t287 => (if t287 = 1 then ((key_Compare.f k ([] : List (S51)) t252).bind fun t288 => (if t288 = (-1) then ((key_Compare.f k t252 t252).bind fun t289 => (some (t289 == 0))) else (none))) else (none))) else (none)) else (none)) else (none)) else (none)) else (none)) else (none)) else (none)) else (none)) else (none)) else (none)) else (none)))) else (none)) else (none)) else (none)) else (none)) else (none))) = some r := H
 have A9 := Aside0.mk A90
 clear A90
 replace H := bM H
 obtain ⟨⟨t274, t275⟩, A100, H⟩ := H
 replace H : (if t243.toList = ([16, 33, 1] : List UInt8) then (if t244 = 0 then (if t245.toList = ([1] : List UInt8) then (if t246 = 0 then (if t251 = 3 then ((withylaw04_Ref.f k t252).bind fun t276 => ((withyref04_Same.f k t276 (([(⟨0, 0, 0, (⟨#[]⟩ : ByteArray)⟩ : S56), (⟨1, 0, 1, (⟨#[]⟩ : ByteArray)⟩ : S56)] : List (S56)))).bind fun t282 => (if t282 = true then (if t253 = 0 then (if (t256.length : Int) = 0 then (if t257 = 0 then (if t261 = 3 then (if t265 = 7 then (if t269 = 3 then (if t272.toList = ([16] : List UInt8) then (if t273 = 0 then (if t275 = 4 then (if 1 ≤ (t252.length : Int) then ((key_Compare.f k t252 (t252.take 1)).bind fun t287 => (if t287 = 1 then ((key_Compare.f k ([] : List (S51)) t252).bind fun t288 => (if t288 = (-1) then ((key_Compare.f k t252 t252).bind fun t289 => (some (t289 == 0))) else (none))) else (none))) else (none)) else (none)) else (none)) else (none)) else (none)) else (none)) else (none)) else (none)) else (none)) else (none)) else (none)))) else (none)) else (none)) else (none)) else (none)) else (none)) = some r := H
 have A10 := Aside0.mk A100
 clear A100
 by_cases c11 : t243.toList = ([16, 33, 1] : List UInt8)
 rotate_left
 ·rw [if_neg c11] at H
  exact absurd H (by simp)
 
 rw [if_pos c11] at H
 have c11b0 : (t243.toList == ([16, 33, 1] : List UInt8)) = true := beq_iff_eq.mpr c11
 have c11b1 : (t243.toList != ([16, 33, 1] : List UInt8)) = false := bne_eq_false_iff_eq.mpr c11
 clear c11
 by_cases c12 : t244 = 0
 rotate_left
 ·rw [if_neg c12] at H
  exact absurd H (by simp)
 rw [if_pos c12] at H
 have c12b0 : (t244 == 0) = true := beq_iff_eq.mpr c12
 have c12b1 : (t244 != 0) = false := bne_eq_false_iff_eq.mpr c12
 clear c12
 by_cases c13 : t245.toList = ([1] : List UInt8)
 rotate_left
 ·rw [if_neg c13] at H
  exact absurd H (by simp)
 rw [if_pos c13] at H
 have c13b0 : (t245.toList == ([1] : List UInt8)) = true := beq_iff_eq.mpr c13
 have c13b1 : (t245.toList != ([1] : List UInt8)) = false := bne_eq_false_iff_eq.mpr c13
 clear c13
 by_cases c14 : t246 = 0
 rotate_left
 ·rw [if_neg c14] at H
  exact absurd H (by simp)
 rw [if_pos c14] at H
 have c14b0 : (t246 == 0) = true := beq_iff_eq.mpr c14
 have c14b1 : (t246 != 0) = false := bne_eq_false_iff_eq.mpr c14
 clear c14
 by_cases c15 : t251 = 3
 rotate_left
 ·rw [if_neg c15] at H
  exact absurd H (by simp)
 rw [if_pos c15] at H
 have c15b0 : (t251 == 3) = true := beq_iff_eq.mpr c15
 have c15b1 : (t251 != 3) = false := bne_eq_false_iff_eq.mpr c15
 clear c15
 replace H := bM H
 obtain ⟨t276, A160, H⟩ := H
 replace H : ((withyref04_Same.f k t276 (([(⟨0, 0, 0, (⟨#[]⟩ : ByteArray)⟩ : S56), (⟨1, 0, 1, (⟨#[]⟩ : ByteArray)⟩ : S56)] : List (S56)))).bind fun t282 => (if t282 = true then (if t253 = 0 then (if (t256.length : Int) = 0 then (if t257 = 0 then (if t261 = 3 then (if t265 = 7 then (if t269 = 3 then (if t272.toList = ([16] : List UInt8) then (if t273 = 0 then (if t275 = 4 then (if 1 ≤ (t252.length : Int) then ((key_Compare.f k t252 (t252.take 1)).bind fun t287 => (if t287 = 1 then ((key_Compare.f k ([] : List (S51)) t252).bind fun t288 => (if t288 = (-1) then ((key_Compare.f k t252 t252).bind fun t289 => (some (t289 == 0))) else (none))) else (none))) else (none)) else (none)) else (none)) else (none)) else (none)) else (none)) else (none)) else (none)) else (none)) else (none)) else (none))) = some r := H
 have A16 := Aside0.mk A160
 clear A160
 obtain ⟨y279, hy279⟩ : ∃ y_ : List (S56), y_ = (([(⟨0, 0, 0, (⟨#[]⟩ : ByteArray)⟩ : S56), (⟨1, 0, 1, (⟨#[]⟩ : ByteArray)⟩ : S56)] : List (S56))) := ⟨_, rfl⟩
 replace H : ((withyref04_Same.f k t276 y279).bind fun t282 => (if t282 = true then (if t253 = 0 then (if (t256.length : Int) = 0 then (if t257 = 0 then (if t261 = 3 then (if t265 = 7 then (if t269 = 3 then (if t272.toList = ([16] : List UInt8) then (if t273 = 0 then (if t275 = 4 then (if 1 ≤ (t252.length : Int) then ((key_Compare.f k t252 (t252.take 1)).bind fun t287 => (if t287 = 1 then ((key_Compare.f k ([] : List (S51)) t252).bind fun t288 => (if t288 = (-1) then ((key_Compare.f k t252 t252).bind fun t289 => (some (t289 == 0))) else (none))) else (none))) else (none)) else (none)) else (none)) else (none)) else (none)) else (none)) else (none)) else (none)) else (none)) else (none)) else (none))) = some r := by first | (rw [hy279]; with_reducible exact H) | (have H2_ := (Option.bind_some _ _).symm.trans H; rw [hy279]; with_reducible exact H2_) | (have H2_ := (Option.bind_some _ _).symm.trans H; with_reducible exact H2_) | with_reducible exact H | (rw [hy279]; exact H) | exact H
 have Ny279 := Aside0.mk hy279
 clear hy279
 replace H := bM H
 obtain ⟨t282, A170, H⟩ := H
 replace H : (if t282 = true then (if t253 = 0 then (if (t256.length : Int) = 0 then (if t257 = 0 then (if t261 = 3 then (if t265 = 7 then (if t269 = 3 then (if t272.toList = ([16] : List UInt8) then (if t273 = 0 then (if t275 = 4 then (if 1 ≤ (t252.length : Int) then ((key_Compare.f k t252 (t252.take 1)).bind fun t287 => (if t287 = 1 then ((key_Compare.f k ([] : List (S51)) t252).bind fun t288 => (if t288 = (-1) then ((key_Compare.f k t252 t252).bind fun t289 => (some (t289 == 0))) else (none))) else (none))) else (none)) else (none)) else (none)) else (none)) else (none)) else (none)) else (none)) else (none)) else (none)) else (none)) else (none)) = some r := H
 have A17 := Aside0.mk A170
 clear A170
 by_cases c18 : t282 = true
 rotate_left
 ·replace c18 := Bool.eq_false_iff.mpr c18
  subst c18
  have H1 : (none) = some r := by rw [if_neg (show ¬ (false = true) by decide)] at H; exact H
  clear H
  have H := H1
  clear H1
  exact absurd H (by simp)
 subst c18
 have H1 : (if t253 = 0 then (if (t256.length : Int) = 0 then (if t257 = 0 then (if t261 = 3 then (if t265 = 7 then (if t269 = 3 then (if t272.toList = ([16] : List UInt8) then (if t273 = 0 then (if t275 = 4 then (if 1 ≤ (t252.length : Int) then ((key_Compare.f k t252 (t252.take 1)).bind fun t287 => (if t287 = 1 then ((key_Compare.f k ([] : List (S51)) t252).bind fun t288 => (if t288 = (-1) then ((key_Compare.f k t252 t252).bind fun t289 => (some (t289 == 0))) else (none))) else (none))) else (none)) else (none)) else (none)) else (none)) else (none)) else (none)) else (none)) else (none)) else (none)) else (none)) = some r := by rw [if_pos rfl] at H; exact H
 clear H
 have H := H1
 clear H1
 by_cases c19 : t253 = 0
 rotate_left
 ·rw [if_neg c19] at H
  exact absurd H (by simp)
 rw [if_pos c19] at H
 have c19b0 : (t253 == 0) = true := beq_iff_eq.mpr c19
 have c19b1 : (t253 != 0) = false := bne_eq_false_iff_eq.mpr c19
 clear c19
 by_cases c20 : (t256.length : Int) = 0
 rotate_left
 ·rw [if_neg c20] at H
  exact absurd H (by simp)
 rw [if_pos c20] at H
 have c20b0 : ((t256.length : Int) == 0) = true := beq_iff_eq.mpr c20
 have c20b1 : ((t256.length : Int) != 0) = false := bne_eq_false_iff_eq.mpr c20
 clear c20
 by_cases c21 : t257 = 0
 rotate_left
 ·rw [if_neg c21] at H
  exact absurd H (by simp)
 rw [if_pos c21] at H
 have c21b0 : (t257 == 0) = true := beq_iff_eq.mpr c21
 have c21b1 : (t257 != 0) = false := bne_eq_false_iff_eq.mpr c21
 clear c21
 by_cases c22 : t261 = 3
 rotate_left
 ·rw [if_neg c22] at H
  exact absurd H (by simp)
 rw [if_pos c22] at H
 have c22b0 : (t261 == 3) = true := beq_iff_eq.mpr c22
 have c22b1 : (t261 != 3) = false := bne_eq_false_iff_eq.mpr c22
 clear c22
 by_cases c23 : t265 = 7
 rotate_left
 ·rw [if_neg c23] at H
  exact absurd H (by simp)
 rw [if_pos c23] at H
 have c23b0 : (t265 == 7) = true := beq_iff_eq.mpr c23
 have c23b1 : (t265 != 7) = false := bne_eq_false_iff_eq.mpr c23
 clear c23
 by_cases c24 : t269 = 3
 rotate_left
 ·rw [if_neg c24] at H
  exact absurd H (by simp)
 rw [if_pos c24] at H
 have c24b0 : (t269 == 3) = true := beq_iff_eq.mpr c24
 have c24b1 : (t269 != 3) = false := bne_eq_false_iff_eq.mpr c24
 clear c24
 by_cases c25 : t272.toList = ([16] : List UInt8)
 rotate_left
 ·rw [if_neg c25] at H
  exact absurd H (by simp)
 rw [if_pos c25] at H
 have c25b0 : (t272.toList == ([16] : List UInt8)) = true := beq_iff_eq.mpr c25
 have c25b1 : (t272.toList != ([16] : List UInt8)) = false := bne_eq_false_iff_eq.mpr c25
 clear c25
 by_cases c26 : t273 = 0
 rotate_left
 ·rw [if_neg c26] at H
  exact absurd H (by simp)
 rw [if_pos c26] at H
 have c26b0 : (t273 == 0) = true := beq_iff_eq.mpr c26
 have c26b1 : (t273 != 0) = false := bne_eq_false_iff_eq.mpr c26
 clear c26
 by_cases c27 : t275 = 4
 rotate_left
 ·rw [if_neg c27] at H
  exact absurd H (by simp)
 rw [if_pos c27] at H
 have c27b0 : (t275 == 4) = true := beq_iff_eq.mpr c27
 have c27b1 : (t275 != 4) = false := bne_eq_false_iff_eq.mpr c27
 clear c27
 by_cases c28 : 1 ≤ (t252.length : Int)
 rotate_left
 ·rw [if_neg c28] at H
  exact absurd H (by simp)
 rw [if_pos c28] at H
 have c28b0 := eq_true c28
 have c28b1 : decide (1 ≤ (t252.length : Int)) = true := decide_eq_true c28
 clear c28
 obtain ⟨y283, hy283⟩ : ∃ y_ : List (S51), y_ = (t252.take 1) := ⟨_, rfl⟩
 replace H : ((key_Compare.f k t252 y283).bind fun t287 => (if t287 = 1 then ((key_Compare.f k ([] : List (S51)) t252).bind fun t288 => (if t288 = (-1) then ((key_Compare.f k t252 t252).bind fun t289 => (some (t289 == 0))) else (none))) else (none))) = some r := by first | (rw [hy283]; with_reducible exact H) | (have H2_ := (Option.bind_some _ _).symm.trans H; rw [hy283]; with_reducible exact H2_) | (have H2_ := (Option.bind_some _ _).symm.trans H; with_reducible exact H2_) | with_reducible exact H | (rw [hy283]; exact H) | exact H
 have Ny283 := Aside0.mk hy283
 clear hy283
 replace H := bM H
 obtain ⟨t287, A290, H⟩ := H
 replace H : (if t287 = 1 then ((key_Compare.f k ([] : List (S51)) t252).bind fun t288 => (if t288 = (-1) then ((key_Compare.f k t252 t252).bind fun t289 => (some (t289 == 0))) else (none))) else (none)) = some r := H
 have A29 := Aside0.mk A290
 clear A290
 by_cases c30 : t287 = 1
 rotate_left
 ·rw [if_neg c30] at H
  exact absurd H (by simp)
 rw [if_pos c30] at H
 have c30b0 : (t287 == 1) = true := beq_iff_eq.mpr c30
 have c30b1 : (t287 != 1) = false := bne_eq_false_iff_eq.mpr c30
 clear c30
 replace H := bM H
 obtain ⟨t288, A310, H⟩ := H
 replace H : (if t288 = (-1) then ((key_Compare.f k t252 t252).bind fun t289 => (some (t289 == 0))) else (none)) = some r := H
 have A31 := Aside0.mk A310
 clear A310
 by_cases c32 : t288 = (-1)
 rotate_left
 ·rw [if_neg c32] at H
  exact absurd H (by simp)
 rw [if_pos c32] at H
 have c32b0 : (t288 == (-1)) = true := beq_iff_eq.mpr c32
 have c32b1 : (t288 != (-1)) = false := bne_eq_false_iff_eq.mpr c32
 clear c32
 replace H := bM H
 obtain ⟨t289, A330, H⟩ := H
 replace H : (some (t289 == 0)) = some r := H
 have A33 := Aside0.mk A330
 clear A330
 obtain rfl := Option.some.inj H
 go_enter Tryd.func21, Tryd.ntmps21
 (try simp only [List.append_eq, List.cons_append, List.nil_append])
 go_wp2_with (first | ((with_reducible refine gate_dst (N := 1) rfl ?_); (try (refine gate_guard (by rfl) ?_; dsimp only)); refine box_event ?hg (N := 1) ?hd (cs := #[.int .i64 0, .int .i64 0, .int .u64 0, .string (⟨#[]⟩ : ByteArray)]) (t := 51) ?hr ?_; (case hd => rfl); (case hg => rfl); (case hr => first | (go_simp; done) | (go_simp; rfl)); intro gb239 hg w34 hbox hb; have BK239 := as_ (hbox); have GW239 := gw hg bA; have GE239 := gw hg bA; replace HB := as_ (below_step bA hb); clear hb hbox hg; obtain ⟨hcz35_0, hcz35_1, hcz35_2, hcz35_3⟩ := zc4 BK239; obtain ⟨hfz35_0, hfz35_1, hfz35_2, hfz35_3⟩ := zf4 BK239) | ((with_reducible refine gate_dst (N := 26) rfl ?_); (try (refine gate_guard (by rfl) ?_; dsimp only)); refine Kd.R_lit k51 _ 51 ?hg (N := 26) ?hd (xs := ([(⟨0, 0, 0, (⟨#[]⟩ : ByteArray)⟩ : S51), (⟨1, 0, 1, (⟨#[]⟩ : ByteArray)⟩ : S51)] : List (S51))) (inner := [.int .i64 0, .int .i64 0, .int .u64 0, .string (⟨#[]⟩ : ByteArray), .int .i64 1, .int .i64 0, .int .u64 1, .string (⟨#[]⟩ : ByteArray)]) (ok := fun _ => True) (okp := fun _ => True) ?hr ?hp (fun _ hk => hk) trivial (Below.refl _ _) (Nat.le_refl _) (by simp) ?_; (case hd => rfl); (case hg => rfl); (case hr => first | (go_simp; done) | (go_simp; rfl)); (case hp => exact (Reps.c4 (show Kd.M k51 _ _ _ (⟨0, 0, 0, (⟨#[]⟩ : ByteArray)⟩ : S51) [.int .i64 0, .int .i64 0, .int .u64 0, .string (⟨#[]⟩ : ByteArray)] from (k51_mkM _ _ _ (⟨0, 0, 0, (⟨#[]⟩ : ByteArray)⟩ : S51) )) (Reps.c4 (show Kd.M k51 _ _ _ (⟨1, 0, 1, (⟨#[]⟩ : ByteArray)⟩ : S51) [.int .i64 1, .int .i64 0, .int .u64 1, .string (⟨#[]⟩ : ByteArray)] from (k51_mkM _ _ _ (⟨1, 0, 1, (⟨#[]⟩ : ByteArray)⟩ : S51) )) (Reps.none _ _)))); intro v241 w36 ho37 hb hg_ hnew_; clear hg_ hnew_; (first | rw [← Ny240.out] at ho37 | (simp only [Int.reduceToNat] at ho37; rw [← Ny240.out] at ho37)); have HO242 := as_ (Kd.R_lower (Kd.R_newB ho37 (g := gb239) (o := .cells #[.int .i64 1, .int .i64 0, .int .u64 1, .string (⟨#[]⟩ : ByteArray)] 51 (0, 0)) (by refine bx ?_; refine blk_put (cs := #[.int .i64 1, .int .i64 0, .int .u64 1, .string (⟨#[]⟩ : ByteArray)]) ?_ 3 _ rfl; refine bx ?_; refine blk_put (cs := #[.int .i64 1, .int .i64 0, .int .u64 0, .string (⟨#[]⟩ : ByteArray)]) ?_ 2 _ rfl; refine bx ?_; refine blk_put (cs := #[.int .i64 1, .int .i64 0, .int .u64 0, .string (⟨#[]⟩ : ByteArray)]) ?_ 1 _ rfl; refine bx ?_; refine blk_put (cs := #[.int .i64 0, .int .i64 0, .int .u64 0, .string (⟨#[]⟩ : ByteArray)]) ?_ 0 _ rfl; refine bx ?_; exact BK239.out)) (below_size bA)); replace BK239 := as_ (blk_below (g := gb239) (o := .cells #[.int .i64 1, .int .i64 0, .int .u64 1, .string (⟨#[]⟩ : ByteArray)] 51 (0, 0)) (by refine bx ?_; refine blk_put (cs := #[.int .i64 1, .int .i64 0, .int .u64 1, .string (⟨#[]⟩ : ByteArray)]) ?_ 3 _ rfl; refine bx ?_; refine blk_put (cs := #[.int .i64 1, .int .i64 0, .int .u64 0, .string (⟨#[]⟩ : ByteArray)]) ?_ 2 _ rfl; refine bx ?_; refine blk_put (cs := #[.int .i64 1, .int .i64 0, .int .u64 0, .string (⟨#[]⟩ : ByteArray)]) ?_ 1 _ rfl; refine bx ?_; refine blk_put (cs := #[.int .i64 0, .int .i64 0, .int .u64 0, .string (⟨#[]⟩ : ByteArray)]) ?_ 0 _ rfl; refine bx ?_; exact BK239.out) hb); replace HB := as_ (below_step bA hb); clear hb ho37; obtain ⟨Ao38, co38, eo38⟩ := Kd.R_slice HO242.out; subst eo38) | ((with_reducible refine gate_callee (f := 10) rfl ?_); refine goesL_ (some 27) rfl rfl Tryd.func10 (by kernel_rfl) rfl #[.slice Ao38 y240.length co38] rfl aO ?_; (with_reducible refine (key_Put.calls k _ _ y240 t243 t244 _ ?side1 ?side2 A1.out).mono ?_); (case side1 => repeat (first | exact (Kd.R_reads' HO242.out).2.2 | (with_reducible refine Kd.C_alloc ?_ _) | (with_reducible refine Kd.C_drewN ?_ _) | (with_reducible refine Kd.C_drew ?_))); (case side2 => exact (Kd.R_reads' HO242.out).2.1); rintro e w39 ⟨rfl, hb⟩; refine ⟨_, rfl, ?_⟩; replace HO242 := as_ (Kd.R_below (by (with_reducible repeat (first | apply Kd.R_alloc | apply Kd.R_drewN | apply Kd.R_drew)); exact HO242.out) hb); replace BK239 := as_ (blk_below (g := gb239) (o := .cells #[.int .i64 1, .int .i64 0, .int .u64 1, .string (⟨#[]⟩ : ByteArray)] 51 (0, 0)) (bk BK239) hb); replace HB := as_ (below_step bA hb); (try clear hb); (try clear hb2); (try clear hk); (try clear hi)) | ((with_reducible refine gate_callee (f := 10) rfl ?_); refine goesL_ (some 31) rfl rfl Tryd.func10 (by kernel_rfl) rfl #[.slice none 0 0] rfl aO ?_; (refine (key_Put.calls k _ _ ([] : List (S51)) t245 t246 _ ?side1 ?side2 A2.out).mono ?_); (case side1 => exact Kd.C_nil _ _); (case side2 => exact Nat.le_refl _); rintro e w40 ⟨rfl, hb⟩; refine ⟨_, rfl, ?_⟩; replace HO242 := as_ (Kd.R_below (by (with_reducible repeat (first | apply Kd.R_alloc | apply Kd.R_drewN | apply Kd.R_drew)); exact HO242.out) hb); replace BK239 := as_ (blk_below (g := gb239) (o := .cells #[.int .i64 1, .int .i64 0, .int .u64 1, .string (⟨#[]⟩ : ByteArray)] 51 (0, 0)) (bk BK239) hb); replace HB := as_ (below_step bA hb); (try clear hb); (try clear hb2); (try clear hk); (try clear hi)) | ((with_reducible refine gate_dst (N := 36) rfl ?_); (try (refine gate_guard (by rfl) ?_; dsimp only)); refine Kd.R_lit k51 _ 51 ?hg (N := 36) ?hd (xs := ([(⟨9, 0, 0, (⟨#[]⟩ : ByteArray)⟩ : S51)] : List (S51))) (inner := [.int .i64 9, .int .i64 0, .int .u64 0, .string (⟨#[]⟩ : ByteArray)]) (ok := fun _ => True) (okp := fun _ => True) ?hr ?hp (fun _ hk => hk) trivial (Below.refl _ _) (Nat.le_refl _) (by simp) ?_; (case hd => rfl); (case hg => rfl); (case hr => first | (go_simp; done) | (go_simp; rfl)); (case hp => exact (Reps.c4 (show Kd.M k51 _ _ _ (⟨9, 0, 0, (⟨#[]⟩ : ByteArray)⟩ : S51) [.int .i64 9, .int .i64 0, .int .u64 0, .string (⟨#[]⟩ : ByteArray)] from (k51_mkM _ _ _ (⟨9, 0, 0, (⟨#[]⟩ : ByteArray)⟩ : S51) )) (Reps.none _ _))); intro v248 w41 ho42 hb hg_ hnew_; clear hg_ hnew_; (first | rw [← Ny247.out] at ho42 | (simp only [Int.reduceToNat] at ho42; rw [← Ny247.out] at ho42)); have HO249 := as_ (Kd.R_lower (Kd.R_newB (Kd.R_new' ho42 (Kd.R_lt (by (with_reducible repeat (first | apply Kd.R_alloc | apply Kd.R_drewN | apply Kd.R_drew)); exact HO242.out))) (g := gb239) (o := .cells #[.int .i64 1, .int .i64 0, .int .u64 1, .string (⟨#[]⟩ : ByteArray)] 51 (0, 0)) (bk BK239)) (below_size bA)); replace HO242 := as_ (Kd.R_elder' (by (with_reducible repeat (first | apply Kd.R_alloc | apply Kd.R_drewN | apply Kd.R_drew)); exact HO242.out) (Kd.R_base ho42) hb); replace BK239 := as_ (blk_below (g := gb239) (o := .cells #[.int .i64 1, .int .i64 0, .int .u64 1, .string (⟨#[]⟩ : ByteArray)] 51 (0, 0)) (bk BK239) hb); replace HB := as_ (below_step bA hb); clear hb ho42; obtain ⟨Ao43, co43, eo43⟩ := Kd.R_slice HO249.out; subst eo43) | ((with_reducible refine gate_callee (f := 10) rfl ?_); refine goesL_ (some 37) rfl rfl Tryd.func10 (by kernel_rfl) rfl #[.slice Ao43 y247.length co43] rfl aO ?_; (with_reducible refine (key_Put.calls k _ _ y247 t250 t251 _ ?side1 ?side2 A3.out).mono ?_); (case side1 => repeat (first | exact (Kd.R_reads' HO249.out).2.2 | (with_reducible refine Kd.C_alloc ?_ _) | (with_reducible refine Kd.C_drewN ?_ _) | (with_reducible refine Kd.C_drew ?_))); (case side2 => exact (Kd.R_reads' HO249.out).2.1); rintro e w44 ⟨rfl, hb⟩; refine ⟨_, rfl, ?_⟩; replace HO242 := as_ (Kd.R_below (by (with_reducible repeat (first | apply Kd.R_alloc | apply Kd.R_drewN | apply Kd.R_drew)); exact HO242.out) hb); replace HO249 := as_ (Kd.R_below (by (with_reducible repeat (first | apply Kd.R_alloc | apply Kd.R_drewN | apply Kd.R_drew)); exact HO249.out) hb); replace BK239 := as_ (blk_below (g := gb239) (o := .cells #[.int .i64 1, .int .i64 0, .int .u64 1, .string (⟨#[]⟩ : ByteArray)] 51 (0, 0)) (bk BK239) hb); replace HB := as_ (below_step bA hb); (try clear hb); (try clear hb2); (try clear hk); (try clear hi)) | ((with_reducible refine gate_callee (f := 13) rfl ?_); refine goesL_ (some 41) rfl rfl Tryd.func13 (by kernel_rfl) rfl #[.string (⟨#[16, 33, 1]⟩ : ByteArray)] rfl aO ?_; (with_reducible refine (key_Get.calls k (⟨#[16, 33, 1]⟩ : ByteArray) t252 t253 _ A4.out).mono ?_); rintro e w45 ⟨v254, rfl, ho0, hb⟩; refine ⟨_, rfl, ?_⟩; have HO255 := as_ (Kd.R_lower (Kd.R_newB (Kd.R_new' (Kd.R_new' ho0 (Kd.R_lt (by (with_reducible repeat (first | apply Kd.R_alloc | apply Kd.R_drewN | apply Kd.R_drew)); exact HO242.out))) (Kd.R_lt (by (with_reducible repeat (first | apply Kd.R_alloc | apply Kd.R_drewN | apply Kd.R_drew)); exact HO249.out))) (g := gb239) (o := .cells #[.int .i64 1, .int .i64 0, .int .u64 1, .string (⟨#[]⟩ : ByteArray)] 51 (0, 0)) (bk BK239)) (below_size bA)); replace HO242 := as_ (Kd.R_elder' (by (with_reducible repeat (first | apply Kd.R_alloc | apply Kd.R_drewN | apply Kd.R_drew)); exact HO242.out) (Kd.R_base ho0) hb); replace HO249 := as_ (Kd.R_elder' (by (with_reducible repeat (first | apply Kd.R_alloc | apply Kd.R_drewN | apply Kd.R_drew)); exact HO249.out) (Kd.R_base ho0) hb); replace BK239 := as_ (blk_below (g := gb239) (o := .cells #[.int .i64 1, .int .i64 0, .int .u64 1, .string (⟨#[]⟩ : ByteArray)] 51 (0, 0)) (bk BK239) hb); replace HB := as_ (below_step bA hb); (try clear hb); (try clear hb2); (try clear hk); (try clear hi); (try clear ho0)) | ((with_reducible refine gate_callee (f := 13) rfl ?_); refine goesL_ (some 45) rfl rfl Tryd.func13 (by kernel_rfl) rfl #[.string (⟨#[1]⟩ : ByteArray)] rfl aO ?_; (with_reducible refine (key_Get.calls k (⟨#[1]⟩ : ByteArray) t256 t257 _ A5.out).mono ?_); rintro e w46 ⟨v258, rfl, ho0, hb⟩; refine ⟨_, rfl, ?_⟩; have HO259 := as_ (Kd.R_lower (Kd.R_newB (Kd.R_new' (Kd.R_new' (Kd.R_new' ho0 (Kd.R_lt (by (with_reducible repeat (first | apply Kd.R_alloc | apply Kd.R_drewN | apply Kd.R_drew)); exact HO242.out))) (Kd.R_lt (by (with_reducible repeat (first | apply Kd.R_alloc | apply Kd.R_drewN | apply Kd.R_drew)); exact HO249.out))) (Kd.R_lt (by (with_reducible repeat (first | apply Kd.R_alloc | apply Kd.R_drewN | apply Kd.R_drew)); exact HO255.out))) (g := gb239) (o := .cells #[.int .i64 1, .int .i64 0, .int .u64 1, .string (⟨#[]⟩ : ByteArray)] 51 (0, 0)) (bk BK239)) (below_size bA)); replace HO242 := as_ (Kd.R_elder' (by (with_reducible repeat (first | apply Kd.R_alloc | apply Kd.R_drewN | apply Kd.R_drew)); exact HO242.out) (Kd.R_base ho0) hb); replace HO249 := as_ (Kd.R_elder' (by (with_reducible repeat (first | apply Kd.R_alloc | apply Kd.R_drewN | apply Kd.R_drew)); exact HO249.out) (Kd.R_base ho0) hb); replace HO255 := as_ (Kd.R_elder' (by (with_reducible repeat (first | apply Kd.R_alloc | apply Kd.R_drewN | apply Kd.R_drew)); exact HO255.out) (Kd.R_base ho0) hb); replace BK239 := as_ (blk_below (g := gb239) (o := .cells #[.int .i64 1, .int .i64 0, .int .u64 1, .string (⟨#[]⟩ : ByteArray)] 51 (0, 0)) (bk BK239) hb); replace HB := as_ (below_step bA hb); (try clear hb); (try clear hb2); (try clear hk); (try clear hi); (try clear ho0)) | ((with_reducible refine gate_callee (f := 13) rfl ?_); refine goesL_ (some 49) rfl rfl Tryd.func13 (by kernel_rfl) rfl #[.string (⟨#[16, 1, 16]⟩ : ByteArray)] rfl aO ?_; (with_reducible refine (key_Get.calls k (⟨#[16, 1, 16]⟩ : ByteArray) t260 t261 _ A6.out).mono ?_); rintro e w47 ⟨v262, rfl, ho0, hb⟩; refine ⟨_, rfl, ?_⟩; have HO263 := as_ (Kd.R_lower (Kd.R_newB (Kd.R_new' (Kd.R_new' (Kd.R_new' (Kd.R_new' ho0 (Kd.R_lt (by (with_reducible repeat (first | apply Kd.R_alloc | apply Kd.R_drewN | apply Kd.R_drew)); exact HO242.out))) (Kd.R_lt (by (with_reducible repeat (first | apply Kd.R_alloc | apply Kd.R_drewN | apply Kd.R_drew)); exact HO249.out))) (Kd.R_lt (by (with_reducible repeat (first | apply Kd.R_alloc | apply Kd.R_drewN | apply Kd.R_drew)); exact HO255.out))) (Kd.R_lt (by (with_reducible repeat (first | apply Kd.R_alloc | apply Kd.R_drewN | apply Kd.R_drew)); exact HO259.out))) (g := gb239) (o := .cells #[.int .i64 1, .int .i64 0, .int .u64 1, .string (⟨#[]⟩ : ByteArray)] 51 (0, 0)) (bk BK239)) (below_size bA)); replace HO242 := as_ (Kd.R_elder' (by (with_reducible repeat (first | apply Kd.R_alloc | apply Kd.R_drewN | apply Kd.R_drew)); exact HO242.out) (Kd.R_base ho0) hb); replace HO249 := as_ (Kd.R_elder' (by (with_reducible repeat (first | apply Kd.R_alloc | apply Kd.R_drewN | apply Kd.R_drew)); exact HO249.out) (Kd.R_base ho0) hb); replace HO255 := as_ (Kd.R_elder' (by (with_reducible repeat (first | apply Kd.R_alloc | apply Kd.R_drewN | apply Kd.R_drew)); exact HO255.out) (Kd.R_base ho0) hb); replace HO259 := as_ (Kd.R_elder' (by (with_reducible repeat (first | apply Kd.R_alloc | apply Kd.R_drewN | apply Kd.R_drew)); exact HO259.out) (Kd.R_base ho0) hb); replace BK239 := as_ (blk_below (g := gb239) (o := .cells #[.int .i64 1, .int .i64 0, .int .u64 1, .string (⟨#[]⟩ : ByteArray)] 51 (0, 0)) (bk BK239) hb); replace HB := as_ (below_step bA hb); (try clear hb); (try clear hb2); (try clear hk); (try clear hi); (try clear ho0)) | ((with_reducible refine gate_callee (f := 13) rfl ?_); refine goesL_ (some 53) rfl rfl Tryd.func13 (by kernel_rfl) rfl #[.string (⟨#[16]⟩ : ByteArray)] rfl aO ?_; (with_reducible refine (key_Get.calls k (⟨#[16]⟩ : ByteArray) t264 t265 _ A7.out).mono ?_); rintro e w48 ⟨v266, rfl, ho0, hb⟩; refine ⟨_, rfl, ?_⟩; have HO267 := as_ (Kd.R_lower (Kd.R_newB (Kd.R_new' (Kd.R_new' (Kd.R_new' (Kd.R_new' (Kd.R_new' ho0 (Kd.R_lt (by (with_reducible repeat (first | apply Kd.R_alloc | apply Kd.R_drewN | apply Kd.R_drew)); exact HO242.out))) (Kd.R_lt (by (with_reducible repeat (first | apply Kd.R_alloc | apply Kd.R_drewN | apply Kd.R_drew)); exact HO249.out))) (Kd.R_lt (by (with_reducible repeat (first | apply Kd.R_alloc | apply Kd.R_drewN | apply Kd.R_drew)); exact HO255.out))) (Kd.R_lt (by (with_reducible repeat (first | apply Kd.R_alloc | apply Kd.R_drewN | apply Kd.R_drew)); exact HO259.out))) (Kd.R_lt (by (with_reducible repeat (first | apply Kd.R_alloc | apply Kd.R_drewN | apply Kd.R_drew)); exact HO263.out))) (g := gb239) (o := .cells #[.int .i64 1, .int .i64 0, .int .u64 1, .string (⟨#[]⟩ : ByteArray)] 51 (0, 0)) (bk BK239)) (below_size bA)); replace HO242 := as_ (Kd.R_elder' (by (with_reducible repeat (first | apply Kd.R_alloc | apply Kd.R_drewN | apply Kd.R_drew)); exact HO242.out) (Kd.R_base ho0) hb); replace HO249 := as_ (Kd.R_elder' (by (with_reducible repeat (first | apply Kd.R_alloc | apply Kd.R_drewN | apply Kd.R_drew)); exact HO249.out) (Kd.R_base ho0) hb); replace HO255 := as_ (Kd.R_elder' (by (with_reducible repeat (first | apply Kd.R_alloc | apply Kd.R_drewN | apply Kd.R_drew)); exact HO255.out) (Kd.R_base ho0) hb); replace HO259 := as_ (Kd.R_elder' (by (with_reducible repeat (first | apply Kd.R_alloc | apply Kd.R_drewN | apply Kd.R_drew)); exact HO259.out) (Kd.R_base ho0) hb); replace HO263 := as_ (Kd.R_elder' (by (with_reducible repeat (first | apply Kd.R_alloc | apply Kd.R_drewN | apply Kd.R_drew)); exact HO263.out) (Kd.R_base ho0) hb); replace BK239 := as_ (blk_below (g := gb239) (o := .cells #[.int .i64 1, .int .i64 0, .int .u64 1, .string (⟨#[]⟩ : ByteArray)] 51 (0, 0)) (bk BK239) hb); replace HB := as_ (below_step bA hb); (try clear hb); (try clear hb2); (try clear hk); (try clear hi); (try clear ho0)) | ((with_reducible refine gate_callee (f := 13) rfl ?_); refine goesL_ (some 57) rfl rfl Tryd.func13 (by kernel_rfl) rfl #[.string (⟨#[5, 1]⟩ : ByteArray)] rfl aO ?_; (with_reducible refine (key_Get.calls k (⟨#[5, 1]⟩ : ByteArray) t268 t269 _ A8.out).mono ?_); rintro e w49 ⟨v270, rfl, ho0, hb⟩; refine ⟨_, rfl, ?_⟩; have HO271 := as_ (Kd.R_lower (Kd.R_newB (Kd.R_new' (Kd.R_new' (Kd.R_new' (Kd.R_new' (Kd.R_new' (Kd.R_new' ho0 (Kd.R_lt (by (with_reducible repeat (first | apply Kd.R_alloc | apply Kd.R_drewN | apply Kd.R_drew)); exact HO242.out))) (Kd.R_lt (by (with_reducible repeat (first | apply Kd.R_alloc | apply Kd.R_drewN | apply Kd.R_drew)); exact HO249.out))) (Kd.R_lt (by (with_reducible repeat (first | apply Kd.R_alloc | apply Kd.R_drewN | apply Kd.R_drew)); exact HO255.out))) (Kd.R_lt (by (with_reducible repeat (first | apply Kd.R_alloc | apply Kd.R_drewN | apply Kd.R_drew)); exact HO259.out))) (Kd.R_lt (by (with_reducible repeat (first | apply Kd.R_alloc | apply Kd.R_drewN | apply Kd.R_drew)); exact HO263.out))) (Kd.R_lt (by (with_reducible repeat (first | apply Kd.R_alloc | apply Kd.R_drewN | apply Kd.R_drew)); exact HO267.out))) (g := gb239) (o := .cells #[.int .i64 1, .int .i64 0, .int .u64 1, .string (⟨#[]⟩ : ByteArray)] 51 (0, 0)) (bk BK239)) (below_size bA)); replace HO242 := as_ (Kd.R_elder' (by (with_reducible repeat (first | apply Kd.R_alloc | apply Kd.R_drewN | apply Kd.R_drew)); exact HO242.out) (Kd.R_base ho0) hb); replace HO249 := as_ (Kd.R_elder' (by (with_reducible repeat (first | apply Kd.R_alloc | apply Kd.R_drewN | apply Kd.R_drew)); exact HO249.out) (Kd.R_base ho0) hb); replace HO255 := as_ (Kd.R_elder' (by (with_reducible repeat (first | apply Kd.R_alloc | apply Kd.R_drewN | apply Kd.R_drew)); exact HO255.out) (Kd.R_base ho0) hb); replace HO259 := as_ (Kd.R_elder' (by (with_reducible repeat (first | apply Kd.R_alloc | apply Kd.R_drewN | apply Kd.R_drew)); exact HO259.out) (Kd.R_base ho0) hb); replace HO263 := as_ (Kd.R_elder' (by (with_reducible repeat (first | apply Kd.R_alloc | apply Kd.R_drewN | apply Kd.R_drew)); exact HO263.out) (Kd.R_base ho0) hb); replace HO267 := as_ (Kd.R_elder' (by (with_reducible repeat (first | apply Kd.R_alloc | apply Kd.R_drewN | apply Kd.R_drew)); exact HO267.out) (Kd.R_base ho0) hb); replace BK239 := as_ (blk_below (g := gb239) (o := .cells #[.int .i64 1, .int .i64 0, .int .u64 1, .string (⟨#[]⟩ : ByteArray)] 51 (0, 0)) (bk BK239) hb); replace HB := as_ (below_step bA hb); (try clear hb); (try clear hb2); (try clear hk); (try clear hi); (try clear ho0)) | ((with_reducible refine gate_callee (f := 15) rfl ?_); refine goesL_ (some 61) rfl rfl Tryd.func15 (by kernel_rfl) rfl #[.string (⟨#[16, 33, 1]⟩ : ByteArray), .int .i64 1] rfl aO ?_; (with_reducible refine (key_Part.calls k (⟨#[16, 33, 1]⟩ : ByteArray) 1 t272 t273 _ A9.out).mono ?_); rintro e w50 ⟨rfl, hb⟩; refine ⟨_, rfl, ?_⟩; replace HO242 := as_ (Kd.R_below (by (with_reducible repeat (first | apply Kd.R_alloc | apply Kd.R_drewN | apply Kd.R_drew)); exact HO242.out) hb); replace HO249 := as_ (Kd.R_below (by (with_reducible repeat (first | apply Kd.R_alloc | apply Kd.R_drewN | apply Kd.R_drew)); exact HO249.out) hb); replace HO255 := as_ (Kd.R_below (by (with_reducible repeat (first | apply Kd.R_alloc | apply Kd.R_drewN | apply Kd.R_drew)); exact HO255.out) hb); replace HO259 := as_ (Kd.R_below (by (with_reducible repeat (first | apply Kd.R_alloc | apply Kd.R_drewN | apply Kd.R_drew)); exact HO259.out) hb); replace HO263 := as_ (Kd.R_below (by (with_reducible repeat (first | apply Kd.R_alloc | apply Kd.R_drewN | apply Kd.R_drew)); exact HO263.out) hb); replace HO267 := as_ (Kd.R_below (by (with_reducible repeat (first | apply Kd.R_alloc | apply Kd.R_drewN | apply Kd.R_drew)); exact HO267.out) hb); replace HO271 := as_ (Kd.R_below (by (with_reducible repeat (first | apply Kd.R_alloc | apply Kd.R_drewN | apply Kd.R_drew)); exact HO271.out) hb); replace BK239 := as_ (blk_below (g := gb239) (o := .cells #[.int .i64 1, .int .i64 0, .int .u64 1, .string (⟨#[]⟩ : ByteArray)] 51 (0, 0)) (bk BK239) hb); replace HB := as_ (below_step bA hb); (try clear hb); (try clear hb2); (try clear hk); (try clear hi)) | ((with_reducible refine gate_callee (f := 15) rfl ?_); refine goesL_ (some 65) rfl rfl Tryd.func15 (by kernel_rfl) rfl #[.string (⟨#[16, 33, 1]⟩ : ByteArray), .int .i64 3] rfl aO ?_; (with_reducible refine (key_Part.calls k (⟨#[16, 33, 1]⟩ : ByteArray) 3 t274 t275 _ A10.out).mono ?_); rintro e w51 ⟨rfl, hb⟩; refine ⟨_, rfl, ?_⟩; replace HO242 := as_ (Kd.R_below (by (with_reducible repeat (first | apply Kd.R_alloc | apply Kd.R_drewN | apply Kd.R_drew)); exact HO242.out) hb); replace HO249 := as_ (Kd.R_below (by (with_reducible repeat (first | apply Kd.R_alloc | apply Kd.R_drewN | apply Kd.R_drew)); exact HO249.out) hb); replace HO255 := as_ (Kd.R_below (by (with_reducible repeat (first | apply Kd.R_alloc | apply Kd.R_drewN | apply Kd.R_drew)); exact HO255.out) hb); replace HO259 := as_ (Kd.R_below (by (with_reducible repeat (first | apply Kd.R_alloc | apply Kd.R_drewN | apply Kd.R_drew)); exact HO259.out) hb); replace HO263 := as_ (Kd.R_below (by (with_reducible repeat (first | apply Kd.R_alloc | apply Kd.R_drewN | apply Kd.R_drew)); exact HO263.out) hb); replace HO267 := as_ (Kd.R_below (by (with_reducible repeat (first | apply Kd.R_alloc | apply Kd.R_drewN | apply Kd.R_drew)); exact HO267.out) hb); replace HO271 := as_ (Kd.R_below (by (with_reducible repeat (first | apply Kd.R_alloc | apply Kd.R_drewN | apply Kd.R_drew)); exact HO271.out) hb); replace BK239 := as_ (blk_below (g := gb239) (o := .cells #[.int .i64 1, .int .i64 0, .int .u64 1, .string (⟨#[]⟩ : ByteArray)] 51 (0, 0)) (bk BK239) hb); replace HB := as_ (below_step bA hb); (try clear hb); (try clear hb2); (try clear hk); (try clear hi); obtain ⟨Ao52, co52, eo52⟩ := Kd.R_slice HO255.out; subst eo52) | (go_at_call 12; (with_reducible refine (withylaw04_Ref.calls k _ _ t252 t276 _ ?side1 ?side2 A16.out).mono ?_); (case side1 => repeat (first | exact (Kd.R_reads' HO255.out).2.2 | (with_reducible refine Kd.C_alloc ?_ _) | (with_reducible refine Kd.C_drewN ?_ _) | (with_reducible refine Kd.C_drew ?_))); (case side2 => exact (Kd.R_reads' HO255.out).2.1); rintro e w53 ⟨v277, rfl, ho0, hb⟩; have HO278 := as_ (Kd.R_lower ho0 (below_size bA)); replace HO242 := as_ (Kd.R_below (by (with_reducible repeat (first | apply Kd.R_alloc | apply Kd.R_drewN | apply Kd.R_drew)); exact HO242.out) hb); replace HO249 := as_ (Kd.R_below (by (with_reducible repeat (first | apply Kd.R_alloc | apply Kd.R_drewN | apply Kd.R_drew)); exact HO249.out) hb); replace HO255 := as_ (Kd.R_below (by (with_reducible repeat (first | apply Kd.R_alloc | apply Kd.R_drewN | apply Kd.R_drew)); exact HO255.out) hb); replace HO259 := as_ (Kd.R_below (by (with_reducible repeat (first | apply Kd.R_alloc | apply Kd.R_drewN | apply Kd.R_drew)); exact HO259.out) hb); replace HO263 := as_ (Kd.R_below (by (with_reducible repeat (first | apply Kd.R_alloc | apply Kd.R_drewN | apply Kd.R_drew)); exact HO263.out) hb); replace HO267 := as_ (Kd.R_below (by (with_reducible repeat (first | apply Kd.R_alloc | apply Kd.R_drewN | apply Kd.R_drew)); exact HO267.out) hb); replace HO271 := as_ (Kd.R_below (by (with_reducible repeat (first | apply Kd.R_alloc | apply Kd.R_drewN | apply Kd.R_drew)); exact HO271.out) hb); replace BK239 := as_ (blk_below (g := gb239) (o := .cells #[.int .i64 1, .int .i64 0, .int .u64 1, .string (⟨#[]⟩ : ByteArray)] 51 (0, 0)) (bk BK239) hb); replace HB := as_ (below_step bA hb); (try clear hb); (try clear hb2); (try clear hk); (try clear hi); (try clear ho0)) | ((with_reducible refine gate_dst (N := 91) rfl ?_); (try (refine gate_guard (by rfl) ?_; dsimp only)); refine Kd.R_lit k56 _ 56 ?hg (N := 91) ?hd (xs := ([(⟨0, 0, 0, (⟨#[]⟩ : ByteArray)⟩ : S56), (⟨1, 0, 1, (⟨#[]⟩ : ByteArray)⟩ : S56)] : List (S56))) (inner := [.int .i64 0, .int .i64 0, .int .u64 0, .string (⟨#[]⟩ : ByteArray), .int .i64 1, .int .i64 0, .int .u64 1, .string (⟨#[]⟩ : ByteArray)]) (ok := fun _ => True) (okp := fun _ => True) ?hr ?hp (fun _ hk => hk) trivial (Below.refl _ _) (Nat.le_refl _) (by simp) ?_; (case hd => rfl); (case hg => rfl); (case hr => first | (go_simp; done) | (go_simp; rfl)); (case hp => exact (Reps.c4 (show Kd.M k56 _ _ _ (⟨0, 0, 0, (⟨#[]⟩ : ByteArray)⟩ : S56) [.int .i64 0, .int .i64 0, .int .u64 0, .string (⟨#[]⟩ : ByteArray)] from (k56_mkM _ _ _ (⟨0, 0, 0, (⟨#[]⟩ : ByteArray)⟩ : S56) )) (Reps.c4 (show Kd.M k56 _ _ _ (⟨1, 0, 1, (⟨#[]⟩ : ByteArray)⟩ : S56) [.int .i64 1, .int .i64 0, .int .u64 1, .string (⟨#[]⟩ : ByteArray)] from (k56_mkM _ _ _ (⟨1, 0, 1, (⟨#[]⟩ : ByteArray)⟩ : S56) )) (Reps.none _ _)))); intro v280 w54 ho55 hb hg_ hnew_; clear hg_ hnew_; (first | rw [← Ny279.out] at ho55 | (simp only [Int.reduceToNat] at ho55; rw [← Ny279.out] at ho55)); have HO281 := as_ (Kd.R_lower (Kd.R_new' ho55 (Kd.R_lt (by (with_reducible repeat (first | apply Kd.R_alloc | apply Kd.R_drewN | apply Kd.R_drew)); exact HO278.out))) (below_size bA)); replace HO242 := as_ (Kd.R_below (by (with_reducible repeat (first | apply Kd.R_alloc | apply Kd.R_drewN | apply Kd.R_drew)); exact HO242.out) hb); replace HO249 := as_ (Kd.R_below (by (with_reducible repeat (first | apply Kd.R_alloc | apply Kd.R_drewN | apply Kd.R_drew)); exact HO249.out) hb); replace HO255 := as_ (Kd.R_below (by (with_reducible repeat (first | apply Kd.R_alloc | apply Kd.R_drewN | apply Kd.R_drew)); exact HO255.out) hb); replace HO259 := as_ (Kd.R_below (by (with_reducible repeat (first | apply Kd.R_alloc | apply Kd.R_drewN | apply Kd.R_drew)); exact HO259.out) hb); replace HO263 := as_ (Kd.R_below (by (with_reducible repeat (first | apply Kd.R_alloc | apply Kd.R_drewN | apply Kd.R_drew)); exact HO263.out) hb); replace HO267 := as_ (Kd.R_below (by (with_reducible repeat (first | apply Kd.R_alloc | apply Kd.R_drewN | apply Kd.R_drew)); exact HO267.out) hb); replace HO271 := as_ (Kd.R_below (by (with_reducible repeat (first | apply Kd.R_alloc | apply Kd.R_drewN | apply Kd.R_drew)); exact HO271.out) hb); replace HO278 := as_ (Kd.R_elder' (by (with_reducible repeat (first | apply Kd.R_alloc | apply Kd.R_drewN | apply Kd.R_drew)); exact HO278.out) (Kd.R_base ho55) hb); replace BK239 := as_ (blk_below (g := gb239) (o := .cells #[.int .i64 1, .int .i64 0, .int .u64 1, .string (⟨#[]⟩ : ByteArray)] 51 (0, 0)) (bk BK239) hb); replace HB := as_ (below_step bA hb); clear hb ho55; obtain ⟨Ao56, co56, eo56⟩ := Kd.R_slice HO278.out; subst eo56; obtain ⟨Ao57, co57, eo57⟩ := Kd.R_slice HO281.out; subst eo57) | (go_at_call 20; (with_reducible refine (withyref04_Same.calls k _ _ t276 _ _ y279 true _ ?side1 ?side2 ?side3 ?side4 A17.out).mono ?_); (case side1 => repeat (first | exact (Kd.R_reads' HO278.out).2.2 | (with_reducible refine Kd.C_alloc ?_ _) | (with_reducible refine Kd.C_drewN ?_ _) | (with_reducible refine Kd.C_drew ?_))); (case side2 => exact (Kd.R_reads' HO278.out).2.1); (case side3 => repeat (first | exact (Kd.R_reads' HO281.out).2.2 | (with_reducible refine Kd.C_alloc ?_ _) | (with_reducible refine Kd.C_drewN ?_ _) | (with_reducible refine Kd.C_drew ?_))); (case side4 => exact (Kd.R_reads' HO281.out).2.1); rintro e w' ⟨rfl, ⟨nd, rfl⟩⟩; obtain ⟨Ao58, co58, eo58⟩ := Kd.R_slice HO259.out; subst eo58; have q59 : (1 : Int) ≤ ((t252.length : Int) : Int) := of_decide_eq_true aM; obtain ⟨i059, hi059, _, hsz59, _⟩ := info_parts info51; have hroom59 : t252.length ≤ co52 := (Kd.R_reads' HO255.out).2.1; have hC59 : Kd.C k51 _ Ao52 t252.length t252 := (Kd.R_reads' HO255.out).2.2; have hcut59 := cut_to (P := Tryd.prog) 22 51 .i64 Tryd.underlying22 hi059 Ao52 t252.length co52 1 (by omega) q59 hroom59; have hr59 := Kd.C_take (m := 1) hC59 (by omega); have hy59 : y283.length = (1 : Int).toNat := (by rw [Ny283.out, List.length_take]; omega); rw [← Ny283.out] at hr59; rw [← hy59] at hcut59; have HR286 := Aside0.mk hr59; have HC286 := as_ (show y283.length ≤ co52 from by omega); clear hr59 hC59 hroom59 hi059 hsz59; have KY59 := Aside0.mk hy59; clear hy59; have KL59 := as_ (show 1 ≤ t252.length from by omega); replace q59 := eq_true q59) | (go_at_call 18; (with_reducible refine (key_Compare.calls k _ _ t252 _ _ y283 t287 _ ?side1 ?side2 ?side3 ?side4 A29.out).mono ?_); (case side1 => repeat (first | exact (Kd.R_reads' HO255.out).2.2 | (with_reducible refine Kd.C_alloc ?_ _) | (with_reducible refine Kd.C_drewN ?_ _) | (with_reducible refine Kd.C_drew ?_))); (case side2 => exact (Kd.R_reads' HO255.out).2.1); (case side3 => repeat (first | exact (by repeat (first | (with_reducible exact HR286.out) | (with_reducible refine Kd.C_alloc ?_ _) | (with_reducible refine Kd.C_drewN ?_ _) | (with_reducible refine Kd.C_drew ?_) | exact HR286.out)) | (with_reducible refine Kd.C_alloc ?_ _) | (with_reducible refine Kd.C_drewN ?_ _) | (with_reducible refine Kd.C_drew ?_))); (case side4 => exact HC286.out); rintro e w60 ⟨rfl, hb⟩; replace HO242 := as_ (Kd.R_below (by (with_reducible repeat (first | apply Kd.R_alloc | apply Kd.R_drewN | apply Kd.R_drew)); exact HO242.out) hb); replace HO249 := as_ (Kd.R_below (by (with_reducible repeat (first | apply Kd.R_alloc | apply Kd.R_drewN | apply Kd.R_drew)); exact HO249.out) hb); replace HO255 := as_ (Kd.R_below (by (with_reducible repeat (first | apply Kd.R_alloc | apply Kd.R_drewN | apply Kd.R_drew)); exact HO255.out) hb); replace HO259 := as_ (Kd.R_below (by (with_reducible repeat (first | apply Kd.R_alloc | apply Kd.R_drewN | apply Kd.R_drew)); exact HO259.out) hb); replace HO263 := as_ (Kd.R_below (by (with_reducible repeat (first | apply Kd.R_alloc | apply Kd.R_drewN | apply Kd.R_drew)); exact HO263.out) hb); replace HO267 := as_ (Kd.R_below (by (with_reducible repeat (first | apply Kd.R_alloc | apply Kd.R_drewN | apply Kd.R_drew)); exact HO267.out) hb); replace HO271 := as_ (Kd.R_below (by (with_reducible repeat (first | apply Kd.R_alloc | apply Kd.R_drewN | apply Kd.R_drew)); exact HO271.out) hb); replace HO278 := as_ (Kd.R_below (by (with_reducible repeat (first | apply Kd.R_alloc | apply Kd.R_drewN | apply Kd.R_drew)); exact HO278.out) hb); replace HO281 := as_ (Kd.R_below (by (with_reducible repeat (first | apply Kd.R_alloc | apply Kd.R_drewN | apply Kd.R_drew)); exact HO281.out) hb); replace BK239 := as_ (blk_below (g := gb239) (o := .cells #[.int .i64 1, .int .i64 0, .int .u64 1, .string (⟨#[]⟩ : ByteArray)] 51 (0, 0)) (bk BK239) hb); replace HR286 := as_ (Kd.C_below (by repeat (first | (with_reducible exact HR286.out) | (with_reducible refine Kd.C_alloc ?_ _) | (with_reducible refine Kd.C_drewN ?_ _) | (with_reducible refine Kd.C_drew ?_) | exact HR286.out)) hb); replace HB := as_ (below_step bA hb); (try clear hb); (try clear hb2); (try clear hk); (try clear hi)) | (go_at_call 18; (with_reducible show Calls _ _ #[Value.slice none 0 0, _] _ _); (refine (key_Compare.calls k _ _ ([] : List (S51)) _ _ t252 t288 _ ?side1 ?side2 ?side3 ?side4 A31.out).mono ?_); (case side1 => exact Kd.C_nil _ _); (case side2 => exact Nat.le_refl _); (case side3 => repeat (first | exact (Kd.R_reads' HO255.out).2.2 | (with_reducible refine Kd.C_alloc ?_ _) | (with_reducible refine Kd.C_drewN ?_ _) | (with_reducible refine Kd.C_drew ?_))); (case side4 => exact (Kd.R_reads' HO255.out).2.1); rintro e w61 ⟨rfl, hb⟩; replace HO242 := as_ (Kd.R_below (by (with_reducible repeat (first | apply Kd.R_alloc | apply Kd.R_drewN | apply Kd.R_drew)); exact HO242.out) hb); replace HO249 := as_ (Kd.R_below (by (with_reducible repeat (first | apply Kd.R_alloc | apply Kd.R_drewN | apply Kd.R_drew)); exact HO249.out) hb); replace HO255 := as_ (Kd.R_below (by (with_reducible repeat (first | apply Kd.R_alloc | apply Kd.R_drewN | apply Kd.R_drew)); exact HO255.out) hb); replace HO259 := as_ (Kd.R_below (by (with_reducible repeat (first | apply Kd.R_alloc | apply Kd.R_drewN | apply Kd.R_drew)); exact HO259.out) hb); replace HO263 := as_ (Kd.R_below (by (with_reducible repeat (first | apply Kd.R_alloc | apply Kd.R_drewN | apply Kd.R_drew)); exact HO263.out) hb); replace HO267 := as_ (Kd.R_below (by (with_reducible repeat (first | apply Kd.R_alloc | apply Kd.R_drewN | apply Kd.R_drew)); exact HO267.out) hb); replace HO271 := as_ (Kd.R_below (by (with_reducible repeat (first | apply Kd.R_alloc | apply Kd.R_drewN | apply Kd.R_drew)); exact HO271.out) hb); replace HO278 := as_ (Kd.R_below (by (with_reducible repeat (first | apply Kd.R_alloc | apply Kd.R_drewN | apply Kd.R_drew)); exact HO278.out) hb); replace HO281 := as_ (Kd.R_below (by (with_reducible repeat (first | apply Kd.R_alloc | apply Kd.R_drewN | apply Kd.R_drew)); exact HO281.out) hb); replace BK239 := as_ (blk_below (g := gb239) (o := .cells #[.int .i64 1, .int .i64 0, .int .u64 1, .string (⟨#[]⟩ : ByteArray)] 51 (0, 0)) (bk BK239) hb); replace HR286 := as_ (Kd.C_below (by repeat (first | (with_reducible exact HR286.out) | (with_reducible refine Kd.C_alloc ?_ _) | (with_reducible refine Kd.C_drewN ?_ _) | (with_reducible refine Kd.C_drew ?_) | exact HR286.out)) hb); replace HB := as_ (below_step bA hb); (try clear hb); (try clear hb2); (try clear hk); (try clear hi)) | (go_at_call 18; (with_reducible refine (key_Compare.calls k _ _ t252 _ _ t252 t289 _ ?side1 ?side2 ?side3 ?side4 A33.out).mono ?_); (case side1 => repeat (first | exact (Kd.R_reads' HO255.out).2.2 | (with_reducible refine Kd.C_alloc ?_ _) | (with_reducible refine Kd.C_drewN ?_ _) | (with_reducible refine Kd.C_drew ?_))); (case side2 => exact (Kd.R_reads' HO255.out).2.1); (case side3 => repeat (first | exact (Kd.R_reads' HO255.out).2.2 | (with_reducible refine Kd.C_alloc ?_ _) | (with_reducible refine Kd.C_drewN ?_ _) | (with_reducible refine Kd.C_drew ?_))); (case side4 => exact (Kd.R_reads' HO255.out).2.1); rintro e w62 ⟨rfl, hb⟩; replace HO242 := as_ (Kd.R_below (by (with_reducible repeat (first | apply Kd.R_alloc | apply Kd.R_drewN | apply Kd.R_drew)); exact HO242.out) hb); replace HO249 := as_ (Kd.R_below (by (with_reducible repeat (first | apply Kd.R_alloc | apply Kd.R_drewN | apply Kd.R_drew)); exact HO249.out) hb); replace HO255 := as_ (Kd.R_below (by (with_reducible repeat (first | apply Kd.R_alloc | apply Kd.R_drewN | apply Kd.R_drew)); exact HO255.out) hb); replace HO259 := as_ (Kd.R_below (by (with_reducible repeat (first | apply Kd.R_alloc | apply Kd.R_drewN | apply Kd.R_drew)); exact HO259.out) hb); replace HO263 := as_ (Kd.R_below (by (with_reducible repeat (first | apply Kd.R_alloc | apply Kd.R_drewN | apply Kd.R_drew)); exact HO263.out) hb); replace HO267 := as_ (Kd.R_below (by (with_reducible repeat (first | apply Kd.R_alloc | apply Kd.R_drewN | apply Kd.R_drew)); exact HO267.out) hb); replace HO271 := as_ (Kd.R_below (by (with_reducible repeat (first | apply Kd.R_alloc | apply Kd.R_drewN | apply Kd.R_drew)); exact HO271.out) hb); replace HO278 := as_ (Kd.R_below (by (with_reducible repeat (first | apply Kd.R_alloc | apply Kd.R_drewN | apply Kd.R_drew)); exact HO278.out) hb); replace HO281 := as_ (Kd.R_below (by (with_reducible repeat (first | apply Kd.R_alloc | apply Kd.R_drewN | apply Kd.R_drew)); exact HO281.out) hb); replace BK239 := as_ (blk_below (g := gb239) (o := .cells #[.int .i64 1, .int .i64 0, .int .u64 1, .string (⟨#[]⟩ : ByteArray)] 51 (0, 0)) (bk BK239) hb); replace HR286 := as_ (Kd.C_below (by repeat (first | (with_reducible exact HR286.out) | (with_reducible refine Kd.C_alloc ?_ _) | (with_reducible refine Kd.C_drewN ?_ _) | (with_reducible refine Kd.C_drew ?_) | exact HR286.out)) hb); replace HB := as_ (below_step bA hb); (try clear hb); (try clear hb2); (try clear hk); (try clear hi)))
 go_ret
 exact ⟨eW, by repeat (first | (with_reducible first | exact HB.out | apply below_alloc | apply pw_below_drewN | apply below_drew1 | refine below_set ?_ GE239.out) | exact HB.out)⟩
end Go.Proofs.YthaicofleloplaaDoor.P
