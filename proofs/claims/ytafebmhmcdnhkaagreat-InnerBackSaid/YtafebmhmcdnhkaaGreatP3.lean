/- What is proved here: for functions of the Go text, a Lean function each, and that the call comes to just what it answers. Conditions: as each contract names them. Written by wip/tools/myprint.py, a driver of the print of the kit. -/
import Derived.Test.YtafebmhmcdnhkaaGreatP0
import Derived.Test.YtafebmhmcdnhkaaGreatWAbbr
namespace Go.Proofs.YtafebmhmcdnhkaaGreat.P
open Go.RowKit Go.Proofs.YtafebmhmcdnhkaaGreatW.PrintWords Go.Proofs.YtafebmhmcdnhkaaGreatW.PrintLast Go.Proofs.YtafebmhmcdnhkaaGreatW.PrintMore Go.Proofs.YtafebmhmcdnhkaaGreatW.Abbr
-- PACKED
attribute [local go_sem] max2_int min2_int max_two min_two max_three min_three max_four min_four Go.Proofs.YtafebmhmcdnhkaaGreatLaws.str_leq Go.Proofs.YtafebmhmcdnhkaaGreatLaws.str_gtr Go.Proofs.YtafebmhmcdnhkaaGreatLaws.str_geq Go.Proofs.YtafebmhmcdnhkaaGreatLaws.max2_str Go.Proofs.YtafebmhmcdnhkaaGreatLaws.min2_str   -- for this text's walks alone
set_option linter.unusedVariables false
set_option linter.unusedSimpArgs false

/-! ### disk_sizes: function 60 -/
def disk_sizes.f  : Option (Int × Int × Int × Int) := some (128, 256, 512, 1024)
set_option maxHeartbeats 8000000 in
set_option maxRecDepth 100000 in
theorem disk_sizes.calls  (r1 : Int) (r2 : Int) (r3 : Int) (r4 : Int) (w : World) (h : disk_sizes.f  = some (r1, r2, r3, r4)) :
  Calls Tryz.prog 60 #[] w fun e w' => e = .returned (.agg #[.int .i64 r1, .int .i64 r2, .int .i64 r3, .int .i64 r4]) ∧ Below w.heap.size w w' := by
 have hu99 := Tryz.underlying99
 have HB := as_ (Below.refl w.heap.size w)
 have H : (some (128, 256, 512, 1024)) = some (r1, r2, r3, r4) := h
 clear h
 simp only [Option.some.injEq, Prod.mk.injEq] at H
 obtain ⟨rfl, rfl, rfl, rfl⟩ := H
 go_enter Tryz.func60, Tryz.ntmps60
 go_wp2_with (first | ((with_reducible refine gate_dst (N := 0) rfl ?_); refine box_event (by rfl) (N := 0) (by rfl) (cs := #[.int .i64 0, .int .i64 0, .int .i64 0, .int .i64 0]) (t := 99) gS ?_; intro gb125 hg w1 hbox hb; have BK125 := as_ (hbox); have GW125 := gw hg bA; have GE125 := gw hg bA; replace HB := as_ (below_step bA hb); clear hb hbox hg; obtain ⟨hcz2_0, hcz2_1, hcz2_2, hcz2_3⟩ := zc4 BK125; obtain ⟨hfz2_0, hfz2_1, hfz2_2, hfz2_3⟩ := zf4 BK125))
 refine bodyPost_ret (results_cell_row rfl _ _ gb125 99 #[.int .i64 128, .int .i64 256, .int .i64 512, .int .i64 1024] (0, 0) _ rfl (by refine bx ?_; refine blk_put (cs := #[.int .i64 128, .int .i64 256, .int .i64 512, .int .i64 0]) ?_ 3 _ rfl; refine bx ?_; refine blk_put (cs := #[.int .i64 128, .int .i64 256, .int .i64 0, .int .i64 0]) ?_ 2 _ rfl; refine bx ?_; refine blk_put (cs := #[.int .i64 128, .int .i64 0, .int .i64 0, .int .i64 0]) ?_ 1 _ rfl; refine bx ?_; refine blk_put (cs := #[.int .i64 0, .int .i64 0, .int .i64 0, .int .i64 0]) ?_ 0 _ rfl; refine bx ?_; exact BK125.out) Tryz.underlying99 rfl (by kernel_rfl)) rfl ?_
 exact ⟨eW, bA⟩

/-! ### disk_Size: function 32, by hand -/
def disk_Size.f (a0 : Int) : Option (Bool) := some (decide (a0 = 128) || decide (a0 = 256) || decide (a0 = 512) || decide (a0 = 1024))
theorem disk_index (W : World) (i : Int) (v : Int) (h : (i = 0 ∧ v = 128) ∨ (i = 1 ∧ v = 256) ∨ (i = 2 ∧ v = 512) ∨ (i = 3 ∧ v = 1024)) : (Instr.index 99 (.agg #[.int .i64 128, .int .i64 256, .int .i64 512, .int .i64 1024]) (.int .i64 i)).run Tryz.prog W = .ok (.int .i64 v) W := by
 have hu : Tryz.prog.underlying 99 = some (.array 4 3) := by kernel_rfl
 obtain ⟨i0, hi, hz, hz1, _⟩ := info_parts (show (Tryz.prog.info? 3).map (fun i => (i.zero, i.size, i.bytes)) = some (some (.int .i64 0), 1, 8) by kernel_rfl)
 rcases h with ⟨rfl, rfl⟩ | ⟨rfl, rfl⟩ | ⟨rfl, rfl⟩ | ⟨rfl, rfl⟩ <;> simp [Instr.index, run_underlying hu, asIntOf, sizeOf, typeInfo, hi, hz1, go_sem]
set_option maxHeartbeats 4000000 in
set_option maxRecDepth 100000 in
theorem disk_Size.calls (a0 : Int) (r : Bool) (w : World) (h : disk_Size.f a0 = some r) :
  Calls Tryz.prog 32 #[.int .i64 a0] w fun e w' => e = .returned (.bool r) ∧ Below w.heap.size w w' := by
 have H := Option.some.inj h
 clear h
 go_enter Tryz.func32, Tryz.ntmps32
 go_wp2_with fail
 refine (disk_sizes.calls 128 256 512 1024 _ rfl).mono ?_
 rintro e w1 ⟨rfl, hb⟩
 have HB1 := as_ (below_step (by repeat (first | exact Below.refl _ _ | apply below_alloc | apply pw_below_drewN | apply below_drew1)) hb : Below w.heap.size w w1)
 clear hb
 have H0 : Aside0 (((0 : Int) = 0 ∧ r = (decide (a0 = 128) || decide (a0 = 256) || decide (a0 = 512) || decide (a0 = 1024)))) := ⟨rfl, H.symm⟩
 go_wp2
 go_loopg [6] 5 (fun kq v6 w' => ∃ x6 : Int, v6 = .int .i64 x6 ∧ Aside0 ((x6 = 0 ∧ kq = 5 ∧ r = (decide (a0 = 128) || decide (a0 = 256) || decide (a0 = 512) || decide (a0 = 1024))) ∨ (x6 = 1 ∧ kq = 4 ∧ r = (decide (a0 = 256) || decide (a0 = 512) || decide (a0 = 1024))) ∨ (x6 = 2 ∧ kq = 3 ∧ r = (decide (a0 = 512) || decide (a0 = 1024))) ∨ (x6 = 3 ∧ kq = 2 ∧ r = decide (a0 = 1024)) ∨ (x6 = 4 ∧ kq = 1 ∧ r = false)) ∧ Aside0 (Below w.heap.size w w'))
 case atStart => exact ⟨0, rfl, ⟨.inl ⟨rfl, rfl, H.symm⟩⟩, ⟨HB1.out⟩⟩
 case round =>
  obtain ⟨x6, rfl, HX, HB⟩ := hrel
  clear H0 H
  rcases HX.out with ⟨rfl, rfl, hr⟩ | ⟨rfl, rfl, hr⟩ | ⟨rfl, rfl, hr⟩ | ⟨rfl, rfl, hr⟩ | ⟨rfl, rfl, hr⟩
  ·have HR := Aside0.mk hr
   clear hr HX
   have hix : ∀ W : World, (Instr.index 99 (.agg #[.int .i64 128, .int .i64 256, .int .i64 512, .int .i64 1024]) (.int .i64 0)).run Tryz.prog W = .ok (.int .i64 128) W := fun W => disk_index W _ _ (by omega)
   by_cases c : a0 = 128
   ·subst c
    go_wp2
    go_ret
    exact ⟨by rw [HR.out]; rfl, by repeat (first | exact HB.out | apply below_alloc | apply pw_below_drewN | apply below_drew1)⟩
   have c0 : ((128 : Int) == a0) = false := beq_eq_false_iff_ne.mpr (fun h => c h.symm)
   have c1 : decide ((128 : Int) = a0) = false := decide_eq_false (fun h => c h.symm)
   go_wp2
   go_roundg 4
   case measure => omega
   case rel => exact ⟨1, rfl, ⟨.inr (.inl ⟨rfl, rfl, by rw [HR.out]; simp [c]⟩)⟩, ⟨by repeat (first | exact HB.out | apply below_alloc | apply pw_below_drewN | apply below_drew1)⟩⟩
  ·have HR := Aside0.mk hr
   clear hr HX
   have hix : ∀ W : World, (Instr.index 99 (.agg #[.int .i64 128, .int .i64 256, .int .i64 512, .int .i64 1024]) (.int .i64 1)).run Tryz.prog W = .ok (.int .i64 256) W := fun W => disk_index W _ _ (by omega)
   by_cases c : a0 = 256
   ·subst c
    go_wp2
    go_ret
    exact ⟨by rw [HR.out]; rfl, by repeat (first | exact HB.out | apply below_alloc | apply pw_below_drewN | apply below_drew1)⟩
   have c0 : ((256 : Int) == a0) = false := beq_eq_false_iff_ne.mpr (fun h => c h.symm)
   have c1 : decide ((256 : Int) = a0) = false := decide_eq_false (fun h => c h.symm)
   go_wp2
   go_roundg 3
   case measure => omega
   case rel => exact ⟨2, rfl, ⟨.inr (.inr (.inl ⟨rfl, rfl, by rw [HR.out]; simp [c]⟩))⟩, ⟨by repeat (first | exact HB.out | apply below_alloc | apply pw_below_drewN | apply below_drew1)⟩⟩
  ·have HR := Aside0.mk hr
   clear hr HX
   have hix : ∀ W : World, (Instr.index 99 (.agg #[.int .i64 128, .int .i64 256, .int .i64 512, .int .i64 1024]) (.int .i64 2)).run Tryz.prog W = .ok (.int .i64 512) W := fun W => disk_index W _ _ (by omega)
   by_cases c : a0 = 512
   ·subst c
    go_wp2
    go_ret
    exact ⟨by rw [HR.out]; rfl, by repeat (first | exact HB.out | apply below_alloc | apply pw_below_drewN | apply below_drew1)⟩
   have c0 : ((512 : Int) == a0) = false := beq_eq_false_iff_ne.mpr (fun h => c h.symm)
   have c1 : decide ((512 : Int) = a0) = false := decide_eq_false (fun h => c h.symm)
   go_wp2
   go_roundg 2
   case measure => omega
   case rel => exact ⟨3, rfl, ⟨.inr (.inr (.inr (.inl ⟨rfl, rfl, by rw [HR.out]; simp [c]⟩)))⟩, ⟨by repeat (first | exact HB.out | apply below_alloc | apply pw_below_drewN | apply below_drew1)⟩⟩
  ·have HR := Aside0.mk hr
   clear hr HX
   have hix : ∀ W : World, (Instr.index 99 (.agg #[.int .i64 128, .int .i64 256, .int .i64 512, .int .i64 1024]) (.int .i64 3)).run Tryz.prog W = .ok (.int .i64 1024) W := fun W => disk_index W _ _ (by omega)
   by_cases c : a0 = 1024
   ·subst c
    go_wp2
    go_ret
    exact ⟨by rw [HR.out]; rfl, by repeat (first | exact HB.out | apply below_alloc | apply pw_below_drewN | apply below_drew1)⟩
   have c0 : ((1024 : Int) == a0) = false := beq_eq_false_iff_ne.mpr (fun h => c h.symm)
   have c1 : decide ((1024 : Int) = a0) = false := decide_eq_false (fun h => c h.symm)
   go_wp2
   go_roundg 1
   case measure => omega
   case rel => exact ⟨4, rfl, ⟨.inr (.inr (.inr (.inr ⟨rfl, rfl, by rw [HR.out]; simp [c]⟩)))⟩, ⟨by repeat (first | exact HB.out | apply below_alloc | apply pw_below_drewN | apply below_drew1)⟩⟩
  ·have HR := Aside0.mk hr
   clear hr HX
   go_wp2
   go_ret
   exact ⟨by rw [HR.out]; rfl, by repeat (first | exact HB.out | apply below_alloc | apply pw_below_drewN | apply below_drew1)⟩


/-! ### inner_number: function 46 -/
def inner_number.f (a0 : Int) : Option (Bool) := if a0 ≥ 1 then (some (decide (a0 < 4096))) else (some false)
set_option maxHeartbeats 8000000 in
set_option maxRecDepth 100000 in
theorem inner_number.calls (a0 : Int) (r : Bool) (w : World) (h : inner_number.f a0 = some r) :
  Calls Tryz.prog 46 #[.int .i64 a0] w fun e w' => e = .returned (.bool r) ∧ Drawn0 w w' := by
 have H : (if a0 ≥ 1 then (some (decide (a0 < 4096))) else (some false)) = some r := h
 clear h
 by_cases c2 : a0 ≥ 1
 ·rw [if_pos c2] at H
  have c2b0 : decide (1 ≤ a0) = true := decide_eq_true c2
  clear c2
  obtain rfl := Option.some.inj H
  go_enter Tryz.func46, Tryz.ntmps46
  go_wp2
  go_ret
  exact ⟨by first | rfl | (simp; done) | (simp [*]; done), by repeat (first | exact Drawn0.refl _ | apply Drawn0.step)⟩
 rw [if_neg c2] at H
 have c2b0 : decide (1 ≤ a0) = false := decide_eq_false c2
 clear c2
 obtain rfl := Option.some.inj H
 go_enter Tryz.func46, Tryz.ntmps46
 go_wp2
 go_ret
 exact ⟨by first | rfl | (simp; done) | (simp [*]; done), by repeat (first | exact Drawn0.refl _ | apply Drawn0.step)⟩

-- NOT PRINTED: function 47 (inner_May_1)

/-! ### slices_IndexFunc_int_int: function 85, by hand -/
def inner_odd (x : Int) : Bool := !(decide (1 ≤ x) && decide (x < 4096))
theorem inner_odd.number (x : Int) : inner_number.f x = some (!inner_odd x) := by
 unfold inner_number.f inner_odd
 by_cases h : 1 ≤ x <;> simp [h]
set_option maxHeartbeats 4000000 in
theorem inner_odd.calls (x : Int) (w : World) :
  Calls Tryz.prog 47 #[.int .i64 x] w fun e w' => e = .returned (.bool (inner_odd x)) ∧ Drawn0 w w' := by
 have A1 := as_ (inner_odd.number x)
 go_enter Tryz.func47, Tryz.ntmps47
 go_wp2_with (go_at_call 46; (with_reducible refine (inner_number.calls x _ _ A1.out).mono ?_); rintro e w' ⟨rfl, ⟨nd, rfl⟩⟩)
 go_ret
 exact ⟨by simp, by repeat (first | exact Drawn0.refl _ | apply Drawn0.step)⟩
def slices_IndexFunc_int_int.f (l0 : List Int) (_ : Int) : Option (Int) := none
theorem inner_odd.next {l : List Int} {j : Nat} (hj : j < l.length) (h : (l.take j).any inner_odd = false) (b : Bool) (hb : inner_odd (rd l (j : Int)) = b) : (l.take (j + 1)).any inner_odd = b := by
 have e : l.take (j + 1) = l.take j ++ [l[j]] := by rw [List.take_add_one, List.getElem?_eq_getElem hj]; rfl
 have e2 : rd l (j : Int) = l[j] := by simp [rd, hj]
 rw [e, List.any_append, h, ← hb, e2]; simp
theorem inner_odd.found {l : List Int} {j : Nat} (h : (l.take j).any inner_odd = true) : l.any inner_odd = true := by
 rw [List.any_eq_true] at h ⊢
 obtain ⟨x, hx, hy⟩ := h
 exact ⟨x, List.mem_of_mem_take hx, hy⟩
theorem inner_odd.succ {j : Nat} (h : (j : Int) ≤ 9223372036854775806) : wrap64 ((j : Int) + 1) = ((j + 1 : Nat) : Int) := by
 unfold wrap64; omega
theorem inner_odd.none {l : List Int} {j : Nat} (h : ¬ j < l.length) (hj : j ≤ l.length) (e : (l.take j).any inner_odd = false) : l.any inner_odd = false := by
 rw [List.take_of_length_le (by omega)] at e
 exact e
set_option maxHeartbeats 8000000 in
set_option maxRecDepth 100000 in
theorem slices_IndexFunc_int_int.odd (A0 : Option Addr) (c0 : Nat) (l0 : List Int) (w : World) (hr0 : Kd.C (Kd.int .i64) w A0 l0.length l0) (hc0 : l0.length ≤ c0) (hl0 : l0.length ≤ 9223372036854775806) :
  Calls Tryz.prog 85 #[.slice A0 l0.length c0, .func (.func 47) #[] #[]] w fun e w' => ∃ r : Int, e = .returned (.int .i64 r) ∧ Aside0 (decide (0 ≤ r) = l0.any inner_odd) ∧ Drawn0 w w' := by
 have HR0 := Aside0.mk hr0
 have HC0 := Aside0.mk hc0
 have HL0 := Aside0.mk hl0
 clear hr0 hc0 hl0
 go_enter Tryz.func85, Tryz.ntmps85
 go_wp2
 repeat (go_quiet (fail); try go_wp2)
 go_loopg [8] (l0.length + 1) (fun kq v8 w' => ∃ (j : Nat), v8 = .int .i64 (j : Int) ∧ Aside0 (j ≤ l0.length ∧ kq + j = l0.length + 1 ∧ (l0.take j).any inner_odd = false) ∧ Drawn0 w w')
 case atStart => exact ⟨0, rfl, ⟨⟨by omega, rfl, by simp⟩⟩, by repeat (first | exact Drawn0.refl _ | apply Drawn0.step)⟩
 case round =>
  obtain ⟨j, rfl, HX, ⟨m1, rfl⟩⟩ := hrel
  by_cases c : j < l0.length
  rotate_left
  ·have c0b : decide ((j : Int) < (l0.length : Int)) = false := decide_eq_false (by omega)
   have c1b : decide (j < l0.length) = false := decide_eq_false c
   have HT := as_ (inner_odd.none c HX.out.1 HX.out.2.2)
   clear c
   go_wp2
   repeat (go_quiet (fail); try go_wp2)
   go_ret
   exact ⟨-1, rfl, ⟨by rw [HT.out]; rfl⟩, by repeat (first | exact Drawn0.refl _ | apply Drawn0.step)⟩
 
 
  have p : 0 ≤ (j : Int) := by omega
  have q : (j : Int) < (l0.length : Int) := by omega
  have c0b : decide ((j : Int) < (l0.length : Int)) = true := decide_eq_true q
  obtain ⟨ad, e', hx⟩ := Kd.at_int HR0.out (j : Int) p q
  cases e'
  rw [Int.toNat_natCast] at hx
  replace p := eq_true p
  replace q := eq_true q
  have C := Aside0.mk c
  clear c
  cases hb : inner_odd (rd l0 (j : Int)) with
  | true =>
   have HT := as_ (inner_odd.found (inner_odd.next C.out HX.out.2.2 true hb))
   go_wp2_with fail
   repeat (go_quiet (fail); try go_wp2_with fail)
   refine (inner_odd.calls (rd l0 (j : Int)) _).mono ?_
   rintro e w2 ⟨rfl, ⟨nd, rfl⟩⟩
   rw [hb]
   go_wp2
   repeat (go_quiet (fail); try go_wp2)
   go_ret
   exact ⟨(j : Int), rfl, ⟨by rw [HT.out]; exact decide_eq_true (by omega)⟩, by repeat (first | exact Drawn0.refl _ | apply Drawn0.step)⟩
  | false =>
   have HT := as_ (inner_odd.next C.out HX.out.2.2 false hb)
   go_wp2_with fail
   repeat (go_quiet (fail); try go_wp2_with fail)
   refine (inner_odd.calls (rd l0 (j : Int)) _).mono ?_
   rintro e w2 ⟨rfl, ⟨nd, rfl⟩⟩
   rw [hb]
   go_wp2
   repeat (go_quiet (fail); try go_wp2)
   go_roundg (l0.length - j)
   case measure => have := HX.out; omega
   case rel => exact ⟨j + 1, (by have e1 := C.out; have e2 := HL0.out; exact congrArg (Value.int .i64) (inner_odd.succ (by omega))), ⟨⟨by have := C.out; omega, by have := HX.out; have := C.out; omega, HT.out⟩⟩, by repeat (first | exact Drawn0.refl _ | apply Drawn0.step)⟩
/-! ### slices_ContainsFunc_int_int: function 48, by hand -/
def slices_ContainsFunc_int_int.f (l0 : List Int) (_ : Int) : Option (Bool) := if l0.length ≤ 9223372036854775806 then some (l0.any inner_odd) else none
set_option maxHeartbeats 8000000 in
set_option maxRecDepth 100000 in
theorem slices_ContainsFunc_int_int.calls (A0 : Option Addr) (c0 : Nat) (l0 : List Int) (a1 : Int) (r : Bool) (w : World) (hr0 : Kd.C (Kd.int .i64) w A0 l0.length l0) (hc0 : l0.length ≤ c0) (h : slices_ContainsFunc_int_int.f l0 a1 = some r) :
  Calls Tryz.prog 48 #[.slice A0 l0.length c0, .func (.func 47) #[] #[]] w fun e w' => e = .returned (.bool r) ∧ Drawn0 w w' := by
 have HR0 := Aside0.mk hr0
 have HC0 := Aside0.mk hc0
 clear hr0 hc0
 unfold slices_ContainsFunc_int_int.f at h
 by_cases hl0 : l0.length ≤ 9223372036854775806
 rotate_left
 ·rw [if_neg hl0] at h; cases h
 rw [if_pos hl0] at h
 have HE := as_ (Option.some.inj h)
 have HL0 := Aside0.mk hl0
 clear h hl0
 go_enter Tryz.func48, Tryz.ntmps48
 go_wp2_with (go_at_call 85; (refine (slices_IndexFunc_int_int.odd A0 c0 l0 _ ?side1 ?side2 HL0.out).mono ?_); (case side1 => repeat (first | exact HR0.out | (with_reducible refine Kd.C_alloc ?_ _) | (with_reducible refine Kd.C_drewN ?_ _) | (with_reducible refine Kd.C_drew ?_))); (case side2 => exact HC0.out); rintro e w' ⟨ri, rfl, HI, ⟨nd, rfl⟩⟩)
 go_ret
 exact ⟨by rw [← HE.out, ← HI.out]; first | rfl | simp, by repeat (first | exact Drawn0.refl _ | apply Drawn0.step)⟩


/-! ### inner_May: function 15 -/
mutual
def inner_May.j0 : Nat → Int → Bool → Int → Int → Int → ByteArray → List Int → List ByteArray → Option (Bool)
 | 0, _, _, _, _, _, _, _, _ => none
 | k + 1, x1, x45, x127000, x127001, x127002, x127003, x127004, x127005 => if x45 = true then (some false) else (if (x127004.length : Int) = (wrap64 ((x127005.length : Int) + 1)) then ((slices_ContainsFunc_int_int.f x127004 48484848).bind fun t130 => (if t130 = true then (inner_May.j1 k x1 true x127000 x127001 x127002 x127003 x127004 x127005) else (if ((x127002 == 0) != (x127003.toList == ([] : List UInt8))) = true then (inner_May.j1 k x1 true x127000 x127001 x127002 x127003 x127004 x127005) else (inner_May.j1 k x1 (decide ((x127003.size : Int) > (wrap64 (Int.tdiv x1 8)))) x127000 x127001 x127002 x127003 x127004 x127005)))) else (inner_May.j1 k x1 true x127000 x127001 x127002 x127003 x127004 x127005))
def inner_May.j1 : Nat → Int → Bool → Int → Int → Int → ByteArray → List Int → List ByteArray → Option (Bool)
 | 0, _, _, _, _, _, _, _, _ => none
 | k + 1, x1, x76, x127000, x127001, x127002, x127003, x127004, x127005 => if x76 = true then (some false) else (inner_May.l0 k x1 (⟨#[]⟩ : ByteArray) x127005 (x127005.length : Int) 0 x127000 x127001 x127002 x127003 x127004 x127005)
def inner_May.l0 : Nat → Int → ByteArray → List ByteArray → Int → Int → Int → Int → Int → ByteArray → List Int → List ByteArray → Option (Bool)
 | 0, _, _, _, _, _, _, _, _, _, _, _ => none
 | k + 1, x1, x6, x78, x79, x80, x127000, x127001, x127002, x127003, x127004, x127005 => if x80 < x79 then (if 0 ≤ x80 then (if x80 < (x78.length : Int) then (if ((Op.bytesLess x6.toList ((rdOf ByteArray.empty x78 x80).toList)) = true) then (if ((rdOf ByteArray.empty x78 x80).size : Int) > (wrap64 (Int.tdiv x1 8)) then (some false) else (if x127002 = 0 then (inner_May.l0 k x1 (rdOf ByteArray.empty x78 x80) x78 x79 (wrap64 (x80 + 1)) x127000 x127001 x127002 x127003 x127004 x127005) else (if ((Op.bytesLess ((rdOf ByteArray.empty x78 x80).toList) x127003.toList) = true) then (inner_May.l0 k x1 (rdOf ByteArray.empty x78 x80) x78 x79 (wrap64 (x80 + 1)) x127000 x127001 x127002 x127003 x127004 x127005) else (some false)))) else (some false)) else (none)) else (none)) else (some true)
end
def inner_May.f (k : Nat) (a0_0 : Int) (a0_1 : Int) (a0_2 : Int) (a0_3 : ByteArray) (l0_4 : List Int) (l0_5 : List ByteArray) (a1 : Int) : Option (Bool) := (disk_Size.f a1).bind fun t127 => (if t127 = true then ((inner_number.f a0_0).bind fun t128 => (if t128 = true then (if a0_1 < 1 then (inner_May.j0 k a1 true a0_0 a0_1 a0_2 a0_3 l0_4 l0_5) else (if a0_1 ≥ 256 then (inner_May.j0 k a1 true a0_0 a0_1 a0_2 a0_3 l0_4 l0_5) else (if a0_2 = 0 then (inner_May.j0 k a1 (a0_2 == a0_0) a0_0 a0_1 a0_2 a0_3 l0_4 l0_5) else ((inner_number.f a0_2).bind fun t129 => (if t129 = true then (inner_May.j0 k a1 (a0_2 == a0_0) a0_0 a0_1 a0_2 a0_3 l0_4 l0_5) else (inner_May.j0 k a1 true a0_0 a0_1 a0_2 a0_3 l0_4 l0_5)))))) else (inner_May.j0 k a1 true a0_0 a0_1 a0_2 a0_3 l0_4 l0_5))) else (inner_May.j0 k a1 true a0_0 a0_1 a0_2 a0_3 l0_4 l0_5))
theorem inner_May.mono_l : ∀ k, (∀ y0 y1 y2 y3 y4 y5 y6 y7, LeO (inner_May.j0 k y0 y1 y2 y3 y4 y5 y6 y7) (inner_May.j0 (k + 1) y0 y1 y2 y3 y4 y5 y6 y7)) ∧ (∀ y0 y1 y2 y3 y4 y5 y6 y7, LeO (inner_May.j1 k y0 y1 y2 y3 y4 y5 y6 y7) (inner_May.j1 (k + 1) y0 y1 y2 y3 y4 y5 y6 y7)) ∧ (∀ y0 y1 y2 y3 y4 y5 y6 y7 y8 y9 y10, LeO (inner_May.l0 k y0 y1 y2 y3 y4 y5 y6 y7 y8 y9 y10) (inner_May.l0 (k + 1) y0 y1 y2 y3 y4 y5 y6 y7 y8 y9 y10))
 | 0 => ⟨fun _ _ _ _ _ _ _ _ r h => by simp [inner_May.j0] at h, fun _ _ _ _ _ _ _ _ r h => by simp [inner_May.j1] at h, fun _ _ _ _ _ _ _ _ _ _ _ r h => by simp [inner_May.l0] at h⟩
 | k + 1 => by
  obtain ⟨ih0, ih1, ih2⟩ := inner_May.mono_l k
  refine ⟨?_, ?_, ?_⟩
  ·intro y0 y1 y2 y3 y4 y5 y6 y7
   unfold inner_May.j0
   repeat' first
   | (with_reducible exact ih0 _ _ _ _ _ _ _ _)
   | (with_reducible exact ih1 _ _ _ _ _ _ _ _)
   | (with_reducible exact ih2 _ _ _ _ _ _ _ _ _ _ _)
   | (with_reducible exact LeO.refl _)
   | (with_reducible exact LeO.none _)
   | (with_reducible refine LeO.ite ?_ ?_)
   | (with_reducible refine LeO.bind ?_ (fun _ => ?_))
   | exact ih0 _ _ _ _ _ _ _ _
   | exact ih1 _ _ _ _ _ _ _ _
   | exact ih2 _ _ _ _ _ _ _ _ _ _ _
   | exact LeO.none _
   | refine LeO.ite ?_ ?_
   | refine LeO.bind ?_ (fun _ => ?_)
  ·intro y0 y1 y2 y3 y4 y5 y6 y7
   unfold inner_May.j1
   repeat' first
   | (with_reducible exact ih0 _ _ _ _ _ _ _ _)
   | (with_reducible exact ih1 _ _ _ _ _ _ _ _)
   | (with_reducible exact ih2 _ _ _ _ _ _ _ _ _ _ _)
   | (with_reducible exact LeO.refl _)
   | (with_reducible exact LeO.none _)
   | (with_reducible refine LeO.ite ?_ ?_)
   | (with_reducible refine LeO.bind ?_ (fun _ => ?_))
   | exact ih0 _ _ _ _ _ _ _ _
   | exact ih1 _ _ _ _ _ _ _ _
   | exact ih2 _ _ _ _ _ _ _ _ _ _ _
   | exact LeO.none _
   | refine LeO.ite ?_ ?_
   | refine LeO.bind ?_ (fun _ => ?_)
  ·intro y0 y1 y2 y3 y4 y5 y6 y7 y8 y9 y10
   unfold inner_May.l0
   repeat' first
   | (with_reducible exact ih0 _ _ _ _ _ _ _ _)
   | (with_reducible exact ih1 _ _ _ _ _ _ _ _)
   | (with_reducible exact ih2 _ _ _ _ _ _ _ _ _ _ _)
   | (with_reducible exact LeO.refl _)
   | (with_reducible exact LeO.none _)
   | (with_reducible refine LeO.ite ?_ ?_)
   | (with_reducible refine LeO.bind ?_ (fun _ => ?_))
   | exact ih0 _ _ _ _ _ _ _ _
   | exact ih1 _ _ _ _ _ _ _ _
   | exact ih2 _ _ _ _ _ _ _ _ _ _ _
   | exact LeO.none _
   | refine LeO.ite ?_ ?_
   | refine LeO.bind ?_ (fun _ => ?_)
theorem inner_May.mono : ∀ a0 a1 a2 a3 a4 a5 a6 k, LeO (inner_May.f k a0 a1 a2 a3 a4 a5 a6) (inner_May.f (k + 1) a0 a1 a2 a3 a4 a5 a6) := by
 intro a0 a1 a2 a3 a4 a5 a6 k
 obtain ⟨ih0, ih1, ih2⟩ := inner_May.mono_l k
 unfold inner_May.f
 repeat' first
   | (with_reducible exact ih0 _ _ _ _ _ _ _ _)
   | (with_reducible exact ih1 _ _ _ _ _ _ _ _)
   | (with_reducible exact ih2 _ _ _ _ _ _ _ _ _ _ _)
   | (with_reducible exact LeO.refl _)
   | (with_reducible exact LeO.none _)
   | (with_reducible refine LeO.ite ?_ ?_)
   | (with_reducible refine LeO.bind ?_ (fun _ => ?_))
   | exact ih0 _ _ _ _ _ _ _ _
   | exact ih1 _ _ _ _ _ _ _ _
   | exact ih2 _ _ _ _ _ _ _ _ _ _ _
   | exact LeO.none _
   | refine LeO.ite ?_ ?_
   | refine LeO.bind ?_ (fun _ => ?_)
set_option maxHeartbeats 8000000 in
set_option maxRecDepth 100000 in
theorem inner_May.calls (k : Nat) (a0_0 : Int) (a0_1 : Int) (a0_2 : Int) (a0_3 : ByteArray) (A0_4 : Option Addr) (c0_4 : Nat) (l0_4 : List Int) (A0_5 : Option Addr) (c0_5 : Nat) (l0_5 : List ByteArray) (a1 : Int) (r : Bool) (w : World) (hr0_4 : Kd.C (Kd.int .i64) w A0_4 l0_4.length l0_4) (hc0_4 : l0_4.length ≤ c0_4) (hr0_5 : Kd.C Kd.string w A0_5 l0_5.length l0_5) (hc0_5 : l0_5.length ≤ c0_5) (h : inner_May.f k a0_0 a0_1 a0_2 a0_3 l0_4 l0_5 a1 = some r) :
  Calls Tryz.prog 15 #[.agg #[.int .i64 a0_0, .int .i64 a0_1, .int .i64 a0_2, .string a0_3, .slice A0_4 l0_4.length c0_4, .slice A0_5 l0_5.length c0_5], .int .i64 a1] w fun e w' => e = .returned (.bool r) ∧ Below w.heap.size w w' := by
 have hu25 := Tryz.underlying25
 have HR0_4 := Aside0.mk hr0_4
 have HC0_4 := Aside0.mk hc0_4
 clear hr0_4 hc0_4
 have HR0_5 := Aside0.mk hr0_5
 have HC0_5 := Aside0.mk hc0_5
 clear hr0_5 hc0_5
 have HB := as_ (Below.refl w.heap.size w)
 have H : ((disk_Size.f a1).bind fun t127 => (if t127 = true then ((inner_number.f a0_0).bind fun t128 => (if t128 = true then (if a0_1 < 1 then (inner_May.j0 k a1 true a0_0 a0_1 a0_2 a0_3 l0_4 l0_5) else (if a0_1 ≥ 256 then (inner_May.j0 k a1 true a0_0 a0_1 a0_2 a0_3 l0_4 l0_5) else (if a0_2 = 0 then (inner_May.j0 k a1 (a0_2 == a0_0) a0_0 a0_1 a0_2 a0_3 l0_4 l0_5) else ((inner_number.f a0_2).bind fun t129 => (if t129 = true then (inner_May.j0 k a1 (a0_2 == a0_0) a0_0 a0_1 a0_2 a0_3 l0_4 l0_5) else (inner_May.j0 k a1 true a0_0 a0_1 a0_2 a0_3 l0_4 l0_5)))))) else (inner_May.j0 k a1 true a0_0 a0_1 a0_2 a0_3 l0_4 l0_5))) else (inner_May.j0 k a1 true a0_0 a0_1 a0_2 a0_3 l0_4 l0_5))) = some r := h
 clear h
 have HC3 := Aside0.mk H
 clear H
 go_enter Tryz.func15, Tryz.ntmps15
 (try simp only [List.append_eq, List.cons_append, List.nil_append])
 go_upto_region 1 with (first | ((with_reducible refine gate_dst (N := 2) rfl ?_); (try (refine gate_guard (by rfl) ?_; dsimp only)); refine box_event (by rfl) (N := 2) (by rfl) (cs := #[.int .i64 a0_0, .int .i64 a0_1, .int .i64 a0_2, .string a0_3, .slice A0_4 l0_4.length c0_4, .slice A0_5 l0_5.length c0_5]) (t := 25) gS ?_; intro gb126 hg w4 hbox hb; have BK126 := as_ (hbox); have GW126 := gw hg bA; have GE126 := gw hg bA; replace HB := as_ (below_step bA hb); clear hb hbox hg))
 (try simp only [Act.put, List.setIfInBounds_toArray, List.set_cons_zero, List.set_cons_succ])
 go_cut [45] (fun v45 wc => ∃ (kq : Nat) (x45_2 : Bool), v45 = .bool x45_2 ∧ Aside0 (inner_May.j0 kq a1 x45_2 a0_0 a0_1 a0_2 a0_3 l0_4 l0_5 = some r) ∧ Aside0 (kq ≤ k) ∧ Aside0 (wc.heap[gb126]? = some (.cells #[.int .i64 a0_0, .int .i64 a0_1, .int .i64 a0_2, .string a0_3, (.slice A0_4 l0_4.length c0_4), (.slice A0_5 l0_5.length c0_5)] 25 (0, 0))) ∧ Aside0 (Below w.heap.size w wc))
 case first =>
  have H := HC3.out
  clear HC3
  obtain ⟨t127, A5, H⟩ := bN H
  (try dsimp only at H)
  by_cases c6 : t127 = true
  rotate_left
  ·replace c6 := Bool.eq_false_iff.mpr c6
   subst c6
   have H1 : (inner_May.j0 k a1 true a0_0 a0_1 a0_2 a0_3 l0_4 l0_5) = some r := by rw [if_neg (show ¬ (false = true) by decide)] at H; exact H
   clear H
   have H := H1
   clear H1
   have H' := Aside0.mk H
   clear H
   go_wp2_with (first | ((with_reducible refine gate_callee (f := 32) rfl ?_); refine goesL_ (some 10) rfl rfl Tryz.func32 (by kernel_rfl) rfl #[.int .i64 a1] rfl aO ?_; (with_reducible refine (disk_Size.calls a1 false _ A5.out).mono ?_); rintro e w26 ⟨rfl, hb⟩; refine ⟨_, rfl, ?_⟩; replace BK126 := bb BK126 hb; replace HB := as_ (below_step bA hb); (try clear hb); (try clear hi)))
   go_meet
   case rel => exact ⟨_, (true), (by first | rfl | (simp; done) | (simp [*]; done)), H', ⟨by first | omega | exact Nat.le_refl _⟩, ⟨by refine bx ?_; exact BK126.out⟩, ⟨bA⟩⟩
  subst c6
  have H1 : ((inner_number.f a0_0).bind fun t128 => (if t128 = true then (if a0_1 < 1 then (inner_May.j0 k a1 true a0_0 a0_1 a0_2 a0_3 l0_4 l0_5) else (if a0_1 ≥ 256 then (inner_May.j0 k a1 true a0_0 a0_1 a0_2 a0_3 l0_4 l0_5) else (if a0_2 = 0 then (inner_May.j0 k a1 (a0_2 == a0_0) a0_0 a0_1 a0_2 a0_3 l0_4 l0_5) else ((inner_number.f a0_2).bind fun t129 => (if t129 = true then (inner_May.j0 k a1 (a0_2 == a0_0) a0_0 a0_1 a0_2 a0_3 l0_4 l0_5) else (inner_May.j0 k a1 true a0_0 a0_1 a0_2 a0_3 l0_4 l0_5)))))) else (inner_May.j0 k a1 true a0_0 a0_1 a0_2 a0_3 l0_4 l0_5))) = some r := by rw [if_pos rfl] at H; exact H
  clear H
  have H := H1
  clear H1
  obtain ⟨t128, A7, H⟩ := bN H
  (try dsimp only at H)
  by_cases c8 : t128 = true
  rotate_left
  ·replace c8 := Bool.eq_false_iff.mpr c8
   subst c8
   have H1 : (inner_May.j0 k a1 true a0_0 a0_1 a0_2 a0_3 l0_4 l0_5) = some r := by rw [if_neg (show ¬ (false = true) by decide)] at H; exact H
   clear H
   have H := H1
   clear H1
   have H' := Aside0.mk H
   clear H
   go_wp2_with (first | ((with_reducible refine gate_callee (f := 32) rfl ?_); refine goesL_ (some 10) rfl rfl Tryz.func32 (by kernel_rfl) rfl #[.int .i64 a1] rfl aO ?_; (with_reducible refine (disk_Size.calls a1 true _ A5.out).mono ?_); rintro e w24 ⟨rfl, hb⟩; refine ⟨_, rfl, ?_⟩; replace BK126 := bb BK126 hb; replace HB := as_ (below_step bA hb); (try clear hb); obtain ⟨hcz25_0, hcz25_1, hcz25_2, hcz25_3, hcz25_4, hcz25_5⟩ := zc6 BK126; obtain ⟨hfz25_0, hfz25_1, hfz25_2, hfz25_3, hfz25_4, hfz25_5⟩ := zf6 BK126) | (go_at_call 46; (with_reducible refine (inner_number.calls a0_0 false _ A7.out).mono ?_); rintro e w' ⟨rfl, ⟨nd, rfl⟩⟩))
   go_meet
   case rel => exact ⟨_, (true), (by first | rfl | (simp; done) | (simp [*]; done)), H', ⟨by first | omega | exact Nat.le_refl _⟩, ⟨by refine bx ?_; exact BK126.out⟩, ⟨bA⟩⟩
  subst c8
  have H1 : (if a0_1 < 1 then (inner_May.j0 k a1 true a0_0 a0_1 a0_2 a0_3 l0_4 l0_5) else (if a0_1 ≥ 256 then (inner_May.j0 k a1 true a0_0 a0_1 a0_2 a0_3 l0_4 l0_5) else (if a0_2 = 0 then (inner_May.j0 k a1 (a0_2 == a0_0) a0_0 a0_1 a0_2 a0_3 l0_4 l0_5) else ((inner_number.f a0_2).bind fun t129 => (if t129 = true then (inner_May.j0 k a1 (a0_2 == a0_0) a0_0 a0_1 a0_2 a0_3 l0_4 l0_5) else (inner_May.j0 k a1 true a0_0 a0_1 a0_2 a0_3 l0_4 l0_5)))))) = some r := by rw [if_pos rfl] at H; exact H
  clear H
  have H := H1
  clear H1
  by_cases c9 : a0_1 < 1
  ·rw [if_pos c9] at H
   have c9b0 := decide_eq_true c9
   clear c9
   (first | rw [c9b0] | (simp only [i64_w, i32_w]; rw [c9b0]) | rw [c9b1] | skip)
   have H' := Aside0.mk H
   clear H
   go_wp2_with (first | ((with_reducible refine gate_callee (f := 32) rfl ?_); refine goesL_ (some 10) rfl rfl Tryz.func32 (by kernel_rfl) rfl #[.int .i64 a1] rfl aO ?_; (with_reducible refine (disk_Size.calls a1 true _ A5.out).mono ?_); rintro e w10 ⟨rfl, hb⟩; refine ⟨_, rfl, ?_⟩; replace BK126 := bb BK126 hb; replace HB := as_ (below_step bA hb); (try clear hb); obtain ⟨hcz11_0, hcz11_1, hcz11_2, hcz11_3, hcz11_4, hcz11_5⟩ := zc6 BK126; obtain ⟨hfz11_0, hfz11_1, hfz11_2, hfz11_3, hfz11_4, hfz11_5⟩ := zf6 BK126) | (go_at_call 46; (with_reducible refine (inner_number.calls a0_0 true _ A7.out).mono ?_); rintro e w' ⟨rfl, ⟨nd, rfl⟩⟩))
   go_meet
   case rel => exact ⟨_, (true), (by first | rfl | (simp; done) | (simp [*]; done)), H', ⟨by first | omega | exact Nat.le_refl _⟩, ⟨by refine bx ?_; exact BK126.out⟩, ⟨bA⟩⟩
  rw [if_neg c9] at H
  have c9b0 := decide_eq_false c9
  clear c9
  (first | rw [c9b0] | (simp only [i64_w, i32_w]; rw [c9b0]) | rw [c9b1] | skip)
  by_cases c12 : a0_1 ≥ 256
  ·rw [if_pos c12] at H
   have c12b0 : decide (256 ≤ a0_1) = true := decide_eq_true c12
   clear c12
   have H' := Aside0.mk H
   clear H
   go_wp2_with (first | ((with_reducible refine gate_callee (f := 32) rfl ?_); refine goesL_ (some 10) rfl rfl Tryz.func32 (by kernel_rfl) rfl #[.int .i64 a1] rfl aO ?_; (with_reducible refine (disk_Size.calls a1 true _ A5.out).mono ?_); rintro e w13 ⟨rfl, hb⟩; refine ⟨_, rfl, ?_⟩; replace BK126 := bb BK126 hb; replace HB := as_ (below_step bA hb); (try clear hb); obtain ⟨hcz14_0, hcz14_1, hcz14_2, hcz14_3, hcz14_4, hcz14_5⟩ := zc6 BK126; obtain ⟨hfz14_0, hfz14_1, hfz14_2, hfz14_3, hfz14_4, hfz14_5⟩ := zf6 BK126) | (go_at_call 46; (with_reducible refine (inner_number.calls a0_0 true _ A7.out).mono ?_); rintro e w' ⟨rfl, ⟨nd, rfl⟩⟩))
   go_meet
   case rel => exact ⟨_, (true), (by first | rfl | (simp; done) | (simp [*]; done)), H', ⟨by first | omega | exact Nat.le_refl _⟩, ⟨by refine bx ?_; exact BK126.out⟩, ⟨bA⟩⟩
  rw [if_neg c12] at H
  have c12b0 : decide (256 ≤ a0_1) = false := decide_eq_false c12
  clear c12
  by_cases c15 : a0_2 = 0
  ·rw [if_pos c15] at H
   have c15b0 := beq_iff_eq.mpr c15
   have c15b1 := bne_eq_false_iff_eq.mpr c15
   clear c15
   have H' := Aside0.mk H
   clear H
   go_wp2_with (first | ((with_reducible refine gate_callee (f := 32) rfl ?_); refine goesL_ (some 10) rfl rfl Tryz.func32 (by kernel_rfl) rfl #[.int .i64 a1] rfl aO ?_; (with_reducible refine (disk_Size.calls a1 true _ A5.out).mono ?_); rintro e w16 ⟨rfl, hb⟩; refine ⟨_, rfl, ?_⟩; replace BK126 := bb BK126 hb; replace HB := as_ (below_step bA hb); (try clear hb); obtain ⟨hcz17_0, hcz17_1, hcz17_2, hcz17_3, hcz17_4, hcz17_5⟩ := zc6 BK126; obtain ⟨hfz17_0, hfz17_1, hfz17_2, hfz17_3, hfz17_4, hfz17_5⟩ := zf6 BK126) | (go_at_call 46; (with_reducible refine (inner_number.calls a0_0 true _ A7.out).mono ?_); rintro e w' ⟨rfl, ⟨nd, rfl⟩⟩))
   go_meet
   case rel => exact ⟨_, ((a0_2 == a0_0)), (by first | rfl | (simp; done) | (simp [*]; done)), H', ⟨by first | omega | exact Nat.le_refl _⟩, ⟨by refine bx ?_; exact BK126.out⟩, ⟨bA⟩⟩
  rw [if_neg c15] at H
  have c15b0 := beq_eq_false_iff_ne.mpr c15
  have c15b1 := bne_iff_ne.mpr c15
  obtain ⟨t129, A18, H⟩ := bN H
  (try dsimp only at H)
  by_cases c19 : t129 = true
  ·subst c19
   have H1 : (inner_May.j0 k a1 (a0_2 == a0_0) a0_0 a0_1 a0_2 a0_3 l0_4 l0_5) = some r := by rw [if_pos rfl] at H; exact H
   clear H
   have H := H1
   clear H1
   have H' := Aside0.mk H
   clear H
   go_wp2_with (first | ((with_reducible refine gate_callee (f := 32) rfl ?_); refine goesL_ (some 10) rfl rfl Tryz.func32 (by kernel_rfl) rfl #[.int .i64 a1] rfl aO ?_; (with_reducible refine (disk_Size.calls a1 true _ A5.out).mono ?_); rintro e w20 ⟨rfl, hb⟩; refine ⟨_, rfl, ?_⟩; replace BK126 := bb BK126 hb; replace HB := as_ (below_step bA hb); (try clear hb); obtain ⟨hcz21_0, hcz21_1, hcz21_2, hcz21_3, hcz21_4, hcz21_5⟩ := zc6 BK126; obtain ⟨hfz21_0, hfz21_1, hfz21_2, hfz21_3, hfz21_4, hfz21_5⟩ := zf6 BK126) | (go_at_call 46; (with_reducible refine (inner_number.calls a0_0 true _ A7.out).mono ?_); rintro e w' ⟨rfl, ⟨nd, rfl⟩⟩) | (go_at_call 46; (with_reducible refine (inner_number.calls a0_2 true _ A18.out).mono ?_); rintro e w' ⟨rfl, ⟨nd, rfl⟩⟩))
   go_meet
   case rel => exact ⟨_, ((a0_2 == a0_0)), (by first | rfl | (simp; done) | (simp [*]; done)), H', ⟨by first | omega | exact Nat.le_refl _⟩, ⟨by refine bx ?_; exact BK126.out⟩, ⟨bA⟩⟩
  replace c19 := Bool.eq_false_iff.mpr c19
  subst c19
  have H1 : (inner_May.j0 k a1 true a0_0 a0_1 a0_2 a0_3 l0_4 l0_5) = some r := by rw [if_neg (show ¬ (false = true) by decide)] at H; exact H
  clear H
  have H := H1
  clear H1
  have H' := Aside0.mk H
  clear H
  go_wp2_with (first | ((with_reducible refine gate_callee (f := 32) rfl ?_); refine goesL_ (some 10) rfl rfl Tryz.func32 (by kernel_rfl) rfl #[.int .i64 a1] rfl aO ?_; (with_reducible refine (disk_Size.calls a1 true _ A5.out).mono ?_); rintro e w22 ⟨rfl, hb⟩; refine ⟨_, rfl, ?_⟩; replace BK126 := bb BK126 hb; replace HB := as_ (below_step bA hb); (try clear hb); obtain ⟨hcz23_0, hcz23_1, hcz23_2, hcz23_3, hcz23_4, hcz23_5⟩ := zc6 BK126; obtain ⟨hfz23_0, hfz23_1, hfz23_2, hfz23_3, hfz23_4, hfz23_5⟩ := zf6 BK126) | (go_at_call 46; (with_reducible refine (inner_number.calls a0_0 true _ A7.out).mono ?_); rintro e w' ⟨rfl, ⟨nd, rfl⟩⟩) | (go_at_call 46; (with_reducible refine (inner_number.calls a0_2 false _ A18.out).mono ?_); rintro e w' ⟨rfl, ⟨nd, rfl⟩⟩))
  go_meet
  case rel => exact ⟨_, (true), (by first | rfl | (simp; done) | (simp [*]; done)), H', ⟨by first | omega | exact Nat.le_refl _⟩, ⟨by refine bx ?_; exact BK126.out⟩, ⟨bA⟩⟩
 case rest =>
  clear HC3
  try clear c1
  try clear p2
  try clear c3
  try clear c6
  try clear c8
  try clear c9
  try clear c9b0
  try clear c9b1
  try clear c12
  try clear c12b0
  try clear c15
  try clear c15b0
  try clear c15b1
  try clear c19
  try clear hcz11_0
  try clear hcz11_1
  try clear hcz11_2
  try clear hcz11_3
  try clear hcz11_4
  try clear hcz11_5
  try clear hcz14_0
  try clear hcz14_1
  try clear hcz14_2
  try clear hcz14_3
  try clear hcz14_4
  try clear hcz14_5
  try clear hcz17_0
  try clear hcz17_1
  try clear hcz17_2
  try clear hcz17_3
  try clear hcz17_4
  try clear hcz17_5
  try clear hcz21_0
  try clear hcz21_1
  try clear hcz21_2
  try clear hcz21_3
  try clear hcz21_4
  try clear hcz21_5
  try clear hcz23_0
  try clear hcz23_1
  try clear hcz23_2
  try clear hcz23_3
  try clear hcz23_4
  try clear hcz23_5
  try clear hcz25_0
  try clear hcz25_1
  try clear hcz25_2
  try clear hcz25_3
  try clear hcz25_4
  try clear hcz25_5
  try clear hfz11_0
  try clear hfz11_1
  try clear hfz11_2
  try clear hfz11_3
  try clear hfz11_4
  try clear hfz11_5
  try clear hfz14_0
  try clear hfz14_1
  try clear hfz14_2
  try clear hfz14_3
  try clear hfz14_4
  try clear hfz14_5
  try clear hfz17_0
  try clear hfz17_1
  try clear hfz17_2
  try clear hfz17_3
  try clear hfz17_4
  try clear hfz17_5
  try clear hfz21_0
  try clear hfz21_1
  try clear hfz21_2
  try clear hfz21_3
  try clear hfz21_4
  try clear hfz21_5
  try clear hfz23_0
  try clear hfz23_1
  try clear hfz23_2
  try clear hfz23_3
  try clear hfz23_4
  try clear hfz23_5
  try clear hfz25_0
  try clear hfz25_1
  try clear hfz25_2
  try clear hfz25_3
  try clear hfz25_4
  try clear hfz25_5
  obtain ⟨kq, x45_2, rfl, HA, HJ2, BK126, HB⟩ := hcut
  cases kq with
  | zero => exact absurd HA.out (by simp [inner_May.j0])
  | succ kj2 =>
   have H := HA.out
   clear HA
   simp only [inner_May.j0] at H
   by_cases c27 : x45_2 = true
   ·subst c27
    have H1 : (some false) = some r := by rw [if_pos rfl] at H; exact H
    clear H
    have H := H1
    clear H1
    obtain rfl := Option.some.inj H
    go_wp2
    go_ret
    exact ⟨eW, bA⟩
   replace c27 := Bool.eq_false_iff.mpr c27
   subst c27
   have H1 : (if (l0_4.length : Int) = (wrap64 ((l0_5.length : Int) + 1)) then ((slices_ContainsFunc_int_int.f l0_4 48484848).bind fun t130 => (if t130 = true then (inner_May.j1 kj2 a1 true a0_0 a0_1 a0_2 a0_3 l0_4 l0_5) else (if ((a0_2 == 0) != (a0_3.toList == ([] : List UInt8))) = true then (inner_May.j1 kj2 a1 true a0_0 a0_1 a0_2 a0_3 l0_4 l0_5) else (inner_May.j1 kj2 a1 (decide ((a0_3.size : Int) > (wrap64 (Int.tdiv a1 8)))) a0_0 a0_1 a0_2 a0_3 l0_4 l0_5)))) else (inner_May.j1 kj2 a1 true a0_0 a0_1 a0_2 a0_3 l0_4 l0_5)) = some r := by rw [if_neg (show ¬ (false = true) by decide)] at H; exact H
   clear H
   have H := H1
   clear H1
   have HC28 := Aside0.mk H
   clear H
   go_upto_region 4 with (fail)
   go_cut [76] (fun v76 wc => ∃ (kq : Nat) (x76_27 : Bool), v76 = .bool x76_27 ∧ Aside0 (inner_May.j1 kq a1 x76_27 a0_0 a0_1 a0_2 a0_3 l0_4 l0_5 = some r) ∧ Aside0 (kq ≤ kj2) ∧ Aside0 (wc.heap[gb126]? = some (.cells #[.int .i64 a0_0, .int .i64 a0_1, .int .i64 a0_2, .string a0_3, (.slice A0_4 l0_4.length c0_4), (.slice A0_5 l0_5.length c0_5)] 25 (0, 0))) ∧ Aside0 (Below w.heap.size w wc))
   case first =>
    have H := HC28.out
    clear HC28
    by_cases c29 : (l0_4.length : Int) = (wrap64 ((l0_5.length : Int) + 1))
    rotate_left
    ·rw [if_neg c29] at H
     have c29b0 := beq_eq_false_iff_ne.mpr c29
     have c29b1 := bne_iff_ne.mpr c29
     (first | rw [c29b0] | (simp only [i64_w, i32_w]; rw [c29b0]) | rw [c29b1] | skip)
     have H' := Aside0.mk H
     clear H
     obtain ⟨hcz36_0, hcz36_1, hcz36_2, hcz36_3, hcz36_4, hcz36_5⟩ := zc6 BK126
     obtain ⟨hfz36_0, hfz36_1, hfz36_2, hfz36_3, hfz36_4, hfz36_5⟩ := zf6 BK126
     go_wp2
     go_meet
     case rel => exact ⟨_, (true), (by first | rfl | (simp; done) | (simp [*]; done)), H', ⟨by have := HJ2.out; first | omega | exact Nat.le_refl _⟩, ⟨by refine bx ?_; exact BK126.out⟩, ⟨bA⟩⟩
    rw [if_pos c29] at H
    have c29b0 := beq_iff_eq.mpr c29
    have c29b1 := bne_eq_false_iff_eq.mpr c29
    clear c29
    (first | rw [c29b0] | (simp only [i64_w, i32_w]; rw [c29b0]) | rw [c29b1] | skip)
    obtain ⟨t130, A30, H⟩ := bN H
    (try dsimp only at H)
    by_cases c31 : t130 = true
    ·subst c31
     have H1 : (inner_May.j1 kj2 a1 true a0_0 a0_1 a0_2 a0_3 l0_4 l0_5) = some r := by rw [if_pos rfl] at H; exact H
     clear H
     have H := H1
     clear H1
     have H' := Aside0.mk H
     clear H
     obtain ⟨hcz32_0, hcz32_1, hcz32_2, hcz32_3, hcz32_4, hcz32_5⟩ := zc6 BK126
     obtain ⟨hfz32_0, hfz32_1, hfz32_2, hfz32_3, hfz32_4, hfz32_5⟩ := zf6 BK126
     go_wp2_with (first | (go_at_call 48; (with_reducible refine (slices_ContainsFunc_int_int.calls _ _ l0_4 48484848 true _ ?side1 ?side2 A30.out).mono ?_); (case side1 => repeat (first | exact (Kd.C_below HR0_4.out HB.out) | (with_reducible refine Kd.C_alloc ?_ _) | (with_reducible refine Kd.C_drewN ?_ _) | (with_reducible refine Kd.C_drew ?_))); (case side2 => exact HC0_4.out); rintro e w' ⟨rfl, ⟨nd, rfl⟩⟩))
     go_meet
     case rel => exact ⟨_, (true), (by first | rfl | (simp; done) | (simp [*]; done)), H', ⟨by have := HJ2.out; first | omega | exact Nat.le_refl _⟩, ⟨by refine bx ?_; exact BK126.out⟩, ⟨bA⟩⟩
    replace c31 := Bool.eq_false_iff.mpr c31
    subst c31
    have H1 : (if ((a0_2 == 0) != (a0_3.toList == ([] : List UInt8))) = true then (inner_May.j1 kj2 a1 true a0_0 a0_1 a0_2 a0_3 l0_4 l0_5) else (inner_May.j1 kj2 a1 (decide ((a0_3.size : Int) > (wrap64 (Int.tdiv a1 8)))) a0_0 a0_1 a0_2 a0_3 l0_4 l0_5)) = some r := by rw [if_neg (show ¬ (false = true) by decide)] at H; exact H
    clear H
    have H := H1
    clear H1
    by_cases c33 : ((a0_2 == 0) != (a0_3.toList == ([] : List UInt8))) = true
    rotate_left
    ·rw [if_neg c33] at H
     have c33b0 : ((a0_2 == 0) != (a0_3.toList == ([] : List UInt8))) = false := by simpa using c33
     (try (have c33b1 : decide ((a0_2 == 0) = (a0_3.toList == ([] : List UInt8))) = true := by simpa using c33))
     (try (have c33b7 : decide ((a0_2 == 0) = a0_3.toList.isEmpty) = true := by simpa using c33))
     (try (have c33b8 : ((a0_2 == 0) = a0_3.toList.isEmpty) = True := eq_true (by simpa using c33)))
     (try (have c33b2 : ((a0_2 == 0) == (a0_3.toList == ([] : List UInt8))) = true := by simpa using c33))
     clear c33
     have H' := Aside0.mk H
     clear H
     obtain ⟨hcz35_0, hcz35_1, hcz35_2, hcz35_3, hcz35_4, hcz35_5⟩ := zc6 BK126
     obtain ⟨hfz35_0, hfz35_1, hfz35_2, hfz35_3, hfz35_4, hfz35_5⟩ := zf6 BK126
     go_wp2_with (first | (go_at_call 48; (with_reducible refine (slices_ContainsFunc_int_int.calls _ _ l0_4 48484848 false _ ?side1 ?side2 A30.out).mono ?_); (case side1 => repeat (first | exact (Kd.C_below HR0_4.out HB.out) | (with_reducible refine Kd.C_alloc ?_ _) | (with_reducible refine Kd.C_drewN ?_ _) | (with_reducible refine Kd.C_drew ?_))); (case side2 => exact HC0_4.out); rintro e w' ⟨rfl, ⟨nd, rfl⟩⟩))
     go_meet
     case rel => exact ⟨_, (decide ((a0_3.size : Int) > (wrap64 (Int.tdiv a1 8)))), (by first | rfl | (simp; done) | (simp [*]; done)), H', ⟨by have := HJ2.out; first | omega | exact Nat.le_refl _⟩, ⟨by refine bx ?_; exact BK126.out⟩, ⟨bA⟩⟩
    rw [if_pos c33] at H
    have c33b0 : ((a0_2 == 0) != (a0_3.toList == ([] : List UInt8))) = true := c33
    (try (have c33b1 : decide ((a0_2 == 0) = (a0_3.toList == ([] : List UInt8))) = false := by simpa using c33))
    (try (have c33b7 : decide ((a0_2 == 0) = a0_3.toList.isEmpty) = false := by simpa using c33))
    (try (have c33b8 : ((a0_2 == 0) = a0_3.toList.isEmpty) = False := eq_false (by simpa using c33)))
    (try (have c33b2 : ((a0_2 == 0) == (a0_3.toList == ([] : List UInt8))) = false := by simpa using c33))
    (try (have c33b3 : ¬ ((a0_2 == 0) = (a0_3.toList == ([] : List UInt8))) := by simpa using c33))
    clear c33
    have H' := Aside0.mk H
    clear H
    obtain ⟨hcz34_0, hcz34_1, hcz34_2, hcz34_3, hcz34_4, hcz34_5⟩ := zc6 BK126
    obtain ⟨hfz34_0, hfz34_1, hfz34_2, hfz34_3, hfz34_4, hfz34_5⟩ := zf6 BK126
    go_wp2_with (first | (go_at_call 48; (with_reducible refine (slices_ContainsFunc_int_int.calls _ _ l0_4 48484848 false _ ?side1 ?side2 A30.out).mono ?_); (case side1 => repeat (first | exact (Kd.C_below HR0_4.out HB.out) | (with_reducible refine Kd.C_alloc ?_ _) | (with_reducible refine Kd.C_drewN ?_ _) | (with_reducible refine Kd.C_drew ?_))); (case side2 => exact HC0_4.out); rintro e w' ⟨rfl, ⟨nd, rfl⟩⟩))
    go_meet
    case rel => exact ⟨_, (true), (by first | rfl | (simp; done) | (simp [*]; done)), H', ⟨by have := HJ2.out; first | omega | exact Nat.le_refl _⟩, ⟨by refine bx ?_; exact BK126.out⟩, ⟨bA⟩⟩
   case rest =>
    clear HC28
    try clear c1
    try clear c2
    try clear p2
    try clear c3
    try clear c6
    try clear p6
    try clear c8
    try clear c9
    try clear c9b0
    try clear c9b1
    try clear c12
    try clear c12b0
    try clear c15
    try clear c15b0
    try clear c15b1
    try clear c19
    try clear c27
    try clear c29
    try clear c29b0
    try clear c29b1
    try clear c31
    try clear c32
    try clear c33
    try clear c33b0
    try clear c33b1
    try clear c33b2
    try clear hcz11_0
    try clear hcz11_1
    try clear hcz11_2
    try clear hcz11_3
    try clear hcz11_4
    try clear hcz11_5
    try clear hcz14_0
    try clear hcz14_1
    try clear hcz14_2
    try clear hcz14_3
    try clear hcz14_4
    try clear hcz14_5
    try clear hcz17_0
    try clear hcz17_1
    try clear hcz17_2
    try clear hcz17_3
    try clear hcz17_4
    try clear hcz17_5
    try clear hcz21_0
    try clear hcz21_1
    try clear hcz21_2
    try clear hcz21_3
    try clear hcz21_4
    try clear hcz21_5
    try clear hcz23_0
    try clear hcz23_1
    try clear hcz23_2
    try clear hcz23_3
    try clear hcz23_4
    try clear hcz23_5
    try clear hcz25_0
    try clear hcz25_1
    try clear hcz25_2
    try clear hcz25_3
    try clear hcz25_4
    try clear hcz25_5
    try clear hcz32_0
    try clear hcz32_1
    try clear hcz32_2
    try clear hcz32_3
    try clear hcz32_4
    try clear hcz32_5
    try clear hcz34_0
    try clear hcz34_1
    try clear hcz34_2
    try clear hcz34_3
    try clear hcz34_4
    try clear hcz34_5
    try clear hcz35_0
    try clear hcz35_1
    try clear hcz35_2
    try clear hcz35_3
    try clear hcz35_4
    try clear hcz35_5
    try clear hcz36_0
    try clear hcz36_1
    try clear hcz36_2
    try clear hcz36_3
    try clear hcz36_4
    try clear hcz36_5
    try clear hfz11_0
    try clear hfz11_1
    try clear hfz11_2
    try clear hfz11_3
    try clear hfz11_4
    try clear hfz11_5
    try clear hfz14_0
    try clear hfz14_1
    try clear hfz14_2
    try clear hfz14_3
    try clear hfz14_4
    try clear hfz14_5
    try clear hfz17_0
    try clear hfz17_1
    try clear hfz17_2
    try clear hfz17_3
    try clear hfz17_4
    try clear hfz17_5
    try clear hfz21_0
    try clear hfz21_1
    try clear hfz21_2
    try clear hfz21_3
    try clear hfz21_4
    try clear hfz21_5
    try clear hfz23_0
    try clear hfz23_1
    try clear hfz23_2
    try clear hfz23_3
    try clear hfz23_4
    try clear hfz23_5
    try clear hfz25_0
    try clear hfz25_1
    try clear hfz25_2
    try clear hfz25_3
    try clear hfz25_4
    try clear hfz25_5
    try clear hfz32_0
    try clear hfz32_1
    try clear hfz32_2
    try clear hfz32_3
    try clear hfz32_4
    try clear hfz32_5
    try clear hfz34_0
    try clear hfz34_1
    try clear hfz34_2
    try clear hfz34_3
    try clear hfz34_4
    try clear hfz34_5
    try clear hfz35_0
    try clear hfz35_1
    try clear hfz35_2
    try clear hfz35_3
    try clear hfz35_4
    try clear hfz35_5
    try clear hfz36_0
    try clear hfz36_1
    try clear hfz36_2
    try clear hfz36_3
    try clear hfz36_4
    try clear hfz36_5
    try clear p2
    obtain ⟨kq, x76_27, rfl, HA, HJ27, BK126, HB⟩ := hcut
    cases kq with
    | zero => exact absurd HA.out (by simp [inner_May.j1])
    | succ kj27 =>
     have H := HA.out
     clear HA
     simp only [inner_May.j1] at H
     by_cases c37 : x76_27 = true
     ·subst c37
      have H1 : (some false) = some r := by rw [if_pos rfl] at H; exact H
      clear H
      have H := H1
      clear H1
      obtain rfl := Option.some.inj H
      go_wp2
      go_ret
      exact ⟨eW, bA⟩
     replace c37 := Bool.eq_false_iff.mpr c37
     subst c37
     have H1 : (inner_May.l0 kj27 a1 (⟨#[]⟩ : ByteArray) l0_5 (l0_5.length : Int) 0 a0_0 a0_1 a0_2 a0_3 l0_4 l0_5) = some r := by rw [if_neg (show ¬ (false = true) by decide)] at H; exact H
     clear H
     have H := H1
     clear H1
     have H' := Aside0.mk H
     clear H
     obtain ⟨hcz38_0, hcz38_1, hcz38_2, hcz38_3, hcz38_4, hcz38_5⟩ := zc6 BK126
     obtain ⟨hfz38_0, hfz38_1, hfz38_2, hfz38_3, hfz38_4, hfz38_5⟩ := zf6 BK126
     go_wp2
     go_loopg [6, 80] kj27 (fun kq v6 v80 w' => ∃ (x6_3 : ByteArray) (x80_3 : Int), v6 = .string x6_3 ∧ v80 = .int .i64 x80_3 ∧ Aside0 (inner_May.l0 kq a1 x6_3 l0_5 (l0_5.length : Int) x80_3 a0_0 a0_1 a0_2 a0_3 l0_4 l0_5 = some r) ∧ Aside0 (kq ≤ kj27) ∧ Aside0 (w'.heap[gb126]? = some (.cells #[.int .i64 a0_0, .int .i64 a0_1, .int .i64 a0_2, .string a0_3, (.slice A0_4 l0_4.length c0_4), (.slice A0_5 l0_5.length c0_5)] 25 (0, 0))) ∧ Aside0 (Below w.heap.size w w'))
     case atStart => exact ⟨((⟨#[]⟩ : ByteArray)), (0), (by first | rfl | (simp; done) | (simp [*]; done)), (by first | rfl | (simp; done) | (simp [*]; done)), H', ⟨Nat.le_refl _⟩, ⟨by refine bx ?_; exact BK126.out⟩, ⟨bA⟩⟩
     case round =>
      clear H'
      try clear c1
      try clear c2
      try clear p2
      try clear c3
      try clear c6
      try clear p6
      try clear c8
      try clear c9
      try clear c9b0
      try clear c9b1
      try clear c12
      try clear c12b0
      try clear c15
      try clear c15b0
      try clear c15b1
      try clear c19
      try clear c27
      try clear c29
      try clear c29b0
      try clear c29b1
      try clear c31
      try clear c32
      try clear c33
      try clear c33b0
      try clear c33b1
      try clear c33b2
      try clear c37
      try clear hcz11_0
      try clear hcz11_1
      try clear hcz11_2
      try clear hcz11_3
      try clear hcz11_4
      try clear hcz11_5
      try clear hcz14_0
      try clear hcz14_1
      try clear hcz14_2
      try clear hcz14_3
      try clear hcz14_4
      try clear hcz14_5
      try clear hcz17_0
      try clear hcz17_1
      try clear hcz17_2
      try clear hcz17_3
      try clear hcz17_4
      try clear hcz17_5
      try clear hcz21_0
      try clear hcz21_1
      try clear hcz21_2
      try clear hcz21_3
      try clear hcz21_4
      try clear hcz21_5
      try clear hcz23_0
      try clear hcz23_1
      try clear hcz23_2
      try clear hcz23_3
      try clear hcz23_4
      try clear hcz23_5
      try clear hcz25_0
      try clear hcz25_1
      try clear hcz25_2
      try clear hcz25_3
      try clear hcz25_4
      try clear hcz25_5
      try clear hcz32_0
      try clear hcz32_1
      try clear hcz32_2
      try clear hcz32_3
      try clear hcz32_4
      try clear hcz32_5
      try clear hcz34_0
      try clear hcz34_1
      try clear hcz34_2
      try clear hcz34_3
      try clear hcz34_4
      try clear hcz34_5
      try clear hcz35_0
      try clear hcz35_1
      try clear hcz35_2
      try clear hcz35_3
      try clear hcz35_4
      try clear hcz35_5
      try clear hcz36_0
      try clear hcz36_1
      try clear hcz36_2
      try clear hcz36_3
      try clear hcz36_4
      try clear hcz36_5
      try clear hcz38_0
      try clear hcz38_1
      try clear hcz38_2
      try clear hcz38_3
      try clear hcz38_4
      try clear hcz38_5
      try clear hfz11_0
      try clear hfz11_1
      try clear hfz11_2
      try clear hfz11_3
      try clear hfz11_4
      try clear hfz11_5
      try clear hfz14_0
      try clear hfz14_1
      try clear hfz14_2
      try clear hfz14_3
      try clear hfz14_4
      try clear hfz14_5
      try clear hfz17_0
      try clear hfz17_1
      try clear hfz17_2
      try clear hfz17_3
      try clear hfz17_4
      try clear hfz17_5
      try clear hfz21_0
      try clear hfz21_1
      try clear hfz21_2
      try clear hfz21_3
      try clear hfz21_4
      try clear hfz21_5
      try clear hfz23_0
      try clear hfz23_1
      try clear hfz23_2
      try clear hfz23_3
      try clear hfz23_4
      try clear hfz23_5
      try clear hfz25_0
      try clear hfz25_1
      try clear hfz25_2
      try clear hfz25_3
      try clear hfz25_4
      try clear hfz25_5
      try clear hfz32_0
      try clear hfz32_1
      try clear hfz32_2
      try clear hfz32_3
      try clear hfz32_4
      try clear hfz32_5
      try clear hfz34_0
      try clear hfz34_1
      try clear hfz34_2
      try clear hfz34_3
      try clear hfz34_4
      try clear hfz34_5
      try clear hfz35_0
      try clear hfz35_1
      try clear hfz35_2
      try clear hfz35_3
      try clear hfz35_4
      try clear hfz35_5
      try clear hfz36_0
      try clear hfz36_1
      try clear hfz36_2
      try clear hfz36_3
      try clear hfz36_4
      try clear hfz36_5
      try clear hfz38_0
      try clear hfz38_1
      try clear hfz38_2
      try clear hfz38_3
      try clear hfz38_4
      try clear hfz38_5
      try clear p2
      try clear p6
      obtain ⟨x6_3, x80_3, rfl, rfl, HA, HK3, BK126, HB⟩ := hrel
      cases gk with
      | zero => exact absurd HA.out (by simp [inner_May.l0])
      | succ k3 =>
       have H := HA.out
       clear HA
       simp only [inner_May.l0] at H
       by_cases c39 : x80_3 < (l0_5.length : Int)
       rotate_left
       ·rw [if_neg c39] at H
        have c39b0 := decide_eq_false c39
        clear c39
        obtain rfl := Option.some.inj H
        go_wp2
        go_ret
        exact ⟨eW, bA⟩
 
       rw [if_pos c39] at H
       have c39b0 := decide_eq_true c39
       clear c39
       obtain ⟨c40, H⟩ := iN (c := 0 ≤ x80_3) H
       have c40b0 := decide_eq_true c40
       clear c40
       obtain ⟨c41, H⟩ := iN (c := x80_3 < (l0_5.length : Int)) H
       have c41b0 := decide_eq_true c41
       clear c41
       by_cases c42 : ((Op.bytesLess x6_3.toList ((rdOf ByteArray.empty l0_5 x80_3).toList)) = true)
       rotate_left
       ·rw [if_neg c42] at H
        have c42b0 : (Op.bytesLess x6_3.toList ((rdOf ByteArray.empty l0_5 x80_3).toList)) = false := by simpa using c42
        clear c42
        obtain rfl := Option.some.inj H
        have p131 : 0 ≤ (x80_3 : Int) := of_decide_eq_true aM
        have q131 : x80_3 < (l0_5.length : Int) := of_decide_eq_true aM
        obtain ⟨ad131, e131, hx131_0⟩ := Kd.at_string HR0_5.out x80_3 p131 q131
        cases e131
        replace hx131_0 := (HB.out.cell (World.block_lt_of_cell? w _ hx131_0)).trans hx131_0
        replace p131 := eq_true p131
        replace q131 := eq_true q131
        go_wp2
        go_ret
        exact ⟨eW, bA⟩
       rw [if_pos c42] at H
       have c42b0 : (Op.bytesLess x6_3.toList ((rdOf ByteArray.empty l0_5 x80_3).toList)) = true := c42
       clear c42
       by_cases c43 : ((rdOf ByteArray.empty l0_5 x80_3).size : Int) > (wrap64 (Int.tdiv a1 8))
       ·rw [if_pos c43] at H
        have c43b0 : decide ((wrap64 (Int.tdiv a1 8)) < ((rdOf ByteArray.empty l0_5 x80_3).size : Int)) = true := decide_eq_true c43
        clear c43
        obtain rfl := Option.some.inj H
        have p131 : 0 ≤ (x80_3 : Int) := of_decide_eq_true aM
        have q131 : x80_3 < (l0_5.length : Int) := of_decide_eq_true aM
        obtain ⟨ad131, e131, hx131_0⟩ := Kd.at_string HR0_5.out x80_3 p131 q131
        cases e131
        replace hx131_0 := (HB.out.cell (World.block_lt_of_cell? w _ hx131_0)).trans hx131_0
        replace p131 := eq_true p131
        replace q131 := eq_true q131
        go_wp2
        go_ret
        exact ⟨eW, bA⟩
       rw [if_neg c43] at H
       have c43b0 : decide ((wrap64 (Int.tdiv a1 8)) < ((rdOf ByteArray.empty l0_5 x80_3).size : Int)) = false := decide_eq_false c43
       clear c43
       by_cases c44 : a0_2 = 0
       ·rw [if_pos c44] at H
        have c44b0 := beq_iff_eq.mpr c44
        (try (have c33u : decide (a0_3.toList = ([] : List UInt8)) = true := by have h_ := c33b0; rw [c44b0] at h_; simpa using h_))
        (try (have c33t : (a0_3.toList == ([] : List UInt8)) = true := by have h_ := c33b0; rw [c44b0] at h_; simpa using h_))
        (try (have c33u : decide (a0_3.toList = ([] : List UInt8)) = false := by have h_ := c33b0; rw [c44b0] at h_; simpa using h_))
        (try (have c33t : (a0_3.toList == ([] : List UInt8)) = false := by have h_ := c33b0; rw [c44b0] at h_; simpa using h_))
        (try (have c33u : decide (a0_3.toList = ([] : List UInt8)) = true := by have h_ := c33b0; rw [c44b0] at h_; simpa using h_))
        (try (have c33t : (a0_3.toList == ([] : List UInt8)) = true := by have h_ := c33b0; rw [c44b0] at h_; simpa using h_))
        (try (have c33u : decide (a0_3.toList = ([] : List UInt8)) = false := by have h_ := c33b0; rw [c44b0] at h_; simpa using h_))
        (try (have c33t : (a0_3.toList == ([] : List UInt8)) = false := by have h_ := c33b0; rw [c44b0] at h_; simpa using h_))
        have c44b1 := bne_eq_false_iff_eq.mpr c44
        clear c44
        have H' := Aside0.mk H
        clear H
        have p131 : 0 ≤ (x80_3 : Int) := of_decide_eq_true aM
        have q131 : x80_3 < (l0_5.length : Int) := of_decide_eq_true aM
        obtain ⟨ad131, e131, hx131_0⟩ := Kd.at_string HR0_5.out x80_3 p131 q131
        cases e131
        replace hx131_0 := (HB.out.cell (World.block_lt_of_cell? w _ hx131_0)).trans hx131_0
        replace p131 := eq_true p131
        replace q131 := eq_true q131
        obtain ⟨hcz45_0, hcz45_1, hcz45_2, hcz45_3, hcz45_4, hcz45_5⟩ := zc6 BK126
        obtain ⟨hfz45_0, hfz45_1, hfz45_2, hfz45_3, hfz45_4, hfz45_5⟩ := zf6 BK126
        go_wp2
        go_roundg k3
        case measure => have := HJ2.out; have := HJ27.out; have := HK3.out; omega
        case rel => exact ⟨(rdOf ByteArray.empty l0_5 x80_3), (wrap64 (x80_3 + 1)), (by first | rfl | (simp; done) | (simp [*]; done)), (by first | rfl | (simp; done) | (simp [*]; done)), H', ⟨by have := HJ2.out; have := HJ27.out; have := HK3.out; omega⟩, ⟨by refine bx ?_; exact BK126.out⟩, ⟨bA⟩⟩
       rw [if_neg c44] at H
       have c44b0 := beq_eq_false_iff_ne.mpr c44
       (try (have c33u : decide (a0_3.toList = ([] : List UInt8)) = true := by have h_ := c33b0; rw [c44b0] at h_; simpa using h_))
       (try (have c33t : (a0_3.toList == ([] : List UInt8)) = true := by have h_ := c33b0; rw [c44b0] at h_; simpa using h_))
       (try (have c33u : decide (a0_3.toList = ([] : List UInt8)) = false := by have h_ := c33b0; rw [c44b0] at h_; simpa using h_))
       (try (have c33t : (a0_3.toList == ([] : List UInt8)) = false := by have h_ := c33b0; rw [c44b0] at h_; simpa using h_))
       (try (have c33u : decide (a0_3.toList = ([] : List UInt8)) = true := by have h_ := c33b0; rw [c44b0] at h_; simpa using h_))
       (try (have c33t : (a0_3.toList == ([] : List UInt8)) = true := by have h_ := c33b0; rw [c44b0] at h_; simpa using h_))
       (try (have c33u : decide (a0_3.toList = ([] : List UInt8)) = false := by have h_ := c33b0; rw [c44b0] at h_; simpa using h_))
       (try (have c33t : (a0_3.toList == ([] : List UInt8)) = false := by have h_ := c33b0; rw [c44b0] at h_; simpa using h_))
       have c44b1 := bne_iff_ne.mpr c44
       by_cases c46 : ((Op.bytesLess ((rdOf ByteArray.empty l0_5 x80_3).toList) a0_3.toList) = true)
       rotate_left
       ·rw [if_neg c46] at H
        have c46b0 : (Op.bytesLess ((rdOf ByteArray.empty l0_5 x80_3).toList) a0_3.toList) = false := by simpa using c46
        clear c46
        obtain rfl := Option.some.inj H
        have p131 : 0 ≤ (x80_3 : Int) := of_decide_eq_true aM
        have q131 : x80_3 < (l0_5.length : Int) := of_decide_eq_true aM
        obtain ⟨ad131, e131, hx131_0⟩ := Kd.at_string HR0_5.out x80_3 p131 q131
        cases e131
        replace hx131_0 := (HB.out.cell (World.block_lt_of_cell? w _ hx131_0)).trans hx131_0
        replace p131 := eq_true p131
        replace q131 := eq_true q131
        obtain ⟨hcz48_0, hcz48_1, hcz48_2, hcz48_3, hcz48_4, hcz48_5⟩ := zc6 BK126
        obtain ⟨hfz48_0, hfz48_1, hfz48_2, hfz48_3, hfz48_4, hfz48_5⟩ := zf6 BK126
        go_wp2
        go_ret
        exact ⟨eW, bA⟩
       rw [if_pos c46] at H
       have c46b0 : (Op.bytesLess ((rdOf ByteArray.empty l0_5 x80_3).toList) a0_3.toList) = true := c46
       clear c46
       have H' := Aside0.mk H
       clear H
       have p131 : 0 ≤ (x80_3 : Int) := of_decide_eq_true aM
       have q131 : x80_3 < (l0_5.length : Int) := of_decide_eq_true aM
       obtain ⟨ad131, e131, hx131_0⟩ := Kd.at_string HR0_5.out x80_3 p131 q131
       cases e131
       replace hx131_0 := (HB.out.cell (World.block_lt_of_cell? w _ hx131_0)).trans hx131_0
       replace p131 := eq_true p131
       replace q131 := eq_true q131
       obtain ⟨hcz47_0, hcz47_1, hcz47_2, hcz47_3, hcz47_4, hcz47_5⟩ := zc6 BK126
       obtain ⟨hfz47_0, hfz47_1, hfz47_2, hfz47_3, hfz47_4, hfz47_5⟩ := zf6 BK126
       go_wp2
       go_roundg k3
       case measure => have := HJ2.out; have := HJ27.out; have := HK3.out; omega
       case rel => exact ⟨(rdOf ByteArray.empty l0_5 x80_3), (wrap64 (x80_3 + 1)), (by first | rfl | (simp; done) | (simp [*]; done)), (by first | rfl | (simp; done) | (simp [*]; done)), H', ⟨by have := HJ2.out; have := HJ27.out; have := HK3.out; omega⟩, ⟨by refine bx ?_; exact BK126.out⟩, ⟨bA⟩⟩
/-! ### sep_shared_byte: function 125 -/
def sep_shared_byte.l0 : Nat → List Int → List Int → Int → Option (Int)
 | 0, _, _, _ => none
 | k + 1, x0, x1, x5 => if x5 < (mn (x0.length : Int) (x1.length : Int)) then (if 0 ≤ x5 then (if x5 < (x0.length : Int) then (if x5 < (x1.length : Int) then (if (rd x0 x5) = (rd x1 x5) then (sep_shared_byte.l0 k x0 x1 (wrap64 (x5 + 1))) else (some x5)) else (none)) else (none)) else (none)) else (some x5)
def sep_shared_byte.f (k : Nat) (l0 : List Int) (l1 : List Int) : Option (Int) := sep_shared_byte.l0 k l0 l1 0
theorem sep_shared_byte.mono_l : ∀ k, (∀ y0 y1 y2, LeO (sep_shared_byte.l0 k y0 y1 y2) (sep_shared_byte.l0 (k + 1) y0 y1 y2))
 | 0 => fun _ _ _ r h => by simp [sep_shared_byte.l0] at h
 | k + 1 => by
  have ih0 := sep_shared_byte.mono_l k
  ·intro y0 y1 y2
   unfold sep_shared_byte.l0
   repeat' first
   | (with_reducible exact ih0 _ _ _)
   | (with_reducible exact LeO.refl _)
   | (with_reducible exact LeO.none _)
   | (with_reducible refine LeO.ite ?_ ?_)
   | (with_reducible refine LeO.bind ?_ (fun _ => ?_))
   | exact ih0 _ _ _
   | exact LeO.none _
   | refine LeO.ite ?_ ?_
   | refine LeO.bind ?_ (fun _ => ?_)
theorem sep_shared_byte.mono : ∀ a0 a1 k, LeO (sep_shared_byte.f k a0 a1) (sep_shared_byte.f (k + 1) a0 a1) := by
 intro a0 a1 k
 have ih0 := sep_shared_byte.mono_l k
 unfold sep_shared_byte.f
 repeat' first
   | (with_reducible exact ih0 _ _ _)
   | (with_reducible exact LeO.refl _)
   | (with_reducible exact LeO.none _)
   | (with_reducible refine LeO.ite ?_ ?_)
   | (with_reducible refine LeO.bind ?_ (fun _ => ?_))
   | exact ih0 _ _ _
   | exact LeO.none _
   | refine LeO.ite ?_ ?_
   | refine LeO.bind ?_ (fun _ => ?_)
set_option maxHeartbeats 8000000 in
set_option maxRecDepth 100000 in
theorem sep_shared_byte.calls (k : Nat) (A0 : Option Addr) (c0 : Nat) (l0 : List Int) (A1 : Option Addr) (c1 : Nat) (l1 : List Int) (r : Int) (w : World) (hr0 : Kd.C (Kd.int .u8) w A0 l0.length l0) (hc0 : l0.length ≤ c0) (hr1 : Kd.C (Kd.int .u8) w A1 l1.length l1) (hc1 : l1.length ≤ c1) (h : sep_shared_byte.f k l0 l1 = some r) :
  Calls Tryz.prog 125 #[.slice A0 l0.length c0, .slice A1 l1.length c1] w fun e w' => e = .returned (.int .i64 r) ∧ Below w.heap.size w w' := by
 have HR0 := Aside0.mk hr0
 have HC0 := Aside0.mk hc0
 clear hr0 hc0
 have HR1 := Aside0.mk hr1
 have HC1 := Aside0.mk hc1
 clear hr1 hc1
 have HB := as_ (Below.refl w.heap.size w)
 have H : (sep_shared_byte.l0 k l0 l1 0) = some r := h
 clear h
 have H' := Aside0.mk H
 clear H
 go_enter Tryz.func125, Tryz.ntmps125
 go_wp2
 repeat (go_quiet (fail); try go_wp2)
 go_loopg [5] k (fun kq v5 w' => ∃ (x5_1 : Int), v5 = .int .i64 x5_1 ∧ Aside0 (sep_shared_byte.l0 kq l0 l1 x5_1 = some r) ∧ Aside0 (kq ≤ k) ∧ Aside0 (Below w.heap.size w w'))
 case atStart => exact ⟨(0), (by first | rfl | (simp; done) | (simp [*]; done)), H', ⟨Nat.le_refl _⟩, ⟨bA⟩⟩
 case round =>
  clear H'
  try clear c1
  try clear p2
  obtain ⟨x5_1, rfl, HA, HK1, HB⟩ := hrel
  cases gk with
  | zero => exact absurd HA.out (by simp [sep_shared_byte.l0])
  | succ k1 =>
   have H := HA.out
   clear HA
   simp only [sep_shared_byte.l0] at H
   obtain ⟨ji3, hji3⟩ : ∃ j_ : Int, (mn (l0.length : Int) (l1.length : Int)) = j_ := ⟨_, rfl⟩
   replace H : (if x5_1 < (ji3) then (if 0 ≤ x5_1 then (if x5_1 < (l0.length : Int) then (if x5_1 < (l1.length : Int) then (if (rd l0 x5_1) = (rd l1 x5_1) then (sep_shared_byte.l0 k1 l0 l1 (wrap64 (x5_1 + 1))) else (some x5_1)) else (none)) else (none)) else (none)) else (some x5_1)) = some r := by first | (rw [hji3] at H; exact H) | (simp only [hji3] at H ⊢; exact H)
   have hji3_ : (if (l1.length : Int) < (l0.length : Int) then (l1.length : Int) else (l0.length : Int)) = ji3 := hji3
   (try (have hji3n : (if l1.length < l0.length then (l1.length : Int) else (l0.length : Int)) = ji3 := by simpa only [Int.ofNat_lt] using hji3_))
   by_cases c4 : x5_1 < (ji3)
   rotate_left
   ·rw [if_neg c4] at H
    have c4b0 : decide (x5_1 < (ji3)) = false := decide_eq_false c4
    clear c4
    obtain rfl := Option.some.inj H
    go_wp2
    repeat (go_quiet (fail); try go_wp2)
    go_ret
    exact ⟨by first | rfl | (simp [errW_none, errW_some] <;> rfl) | (simp only [← hji3]; first | rfl | (simp [errW_none, errW_some] <;> rfl)) | (simp [*, errW_none, errW_some] <;> rfl), bA⟩
 
   rw [if_pos c4] at H
   have c4b0 : decide (x5_1 < (ji3)) = true := decide_eq_true c4
   clear c4
   obtain ⟨c5, H⟩ := iN (c := 0 ≤ x5_1) H
   have c5b0 : decide (0 ≤ x5_1) = true := decide_eq_true c5
   clear c5
   obtain ⟨c6, H⟩ := iN (c := x5_1 < (l0.length : Int)) H
   have c6b0 := decide_eq_true c6
   clear c6
   obtain ⟨c7, H⟩ := iN (c := x5_1 < (l1.length : Int)) H
   have c7b0 := decide_eq_true c7
   clear c7
   by_cases c8 : (rd l0 x5_1) = (rd l1 x5_1)
   rotate_left
   ·rw [if_neg c8] at H
    have c8b0 := beq_eq_false_iff_ne.mpr c8
    have c8b1 := bne_iff_ne.mpr c8
    obtain rfl := Option.some.inj H
    have p132 : 0 ≤ (x5_1 : Int) := of_decide_eq_true aM
    have q132 : x5_1 < (l0.length : Int) := of_decide_eq_true aM
    obtain ⟨ad132, e132, hx132_0⟩ := Kd.at_int HR0.out x5_1 p132 q132
    cases e132
    replace hx132_0 := (HB.out.cell (World.block_lt_of_cell? w _ hx132_0)).trans hx132_0
    replace p132 := eq_true p132
    replace q132 := eq_true q132
    have p133 : 0 ≤ (x5_1 : Int) := of_decide_eq_true aM
    have q133 : x5_1 < (l1.length : Int) := of_decide_eq_true aM
    obtain ⟨ad133, e133, hx133_0⟩ := Kd.at_int HR1.out x5_1 p133 q133
    cases e133
    replace hx133_0 := (HB.out.cell (World.block_lt_of_cell? w _ hx133_0)).trans hx133_0
    replace p133 := eq_true p133
    replace q133 := eq_true q133
    go_wp2
    repeat (go_quiet (fail); try go_wp2)
    go_ret
    exact ⟨by first | rfl | (simp [errW_none, errW_some] <;> rfl) | (simp only [← hji3]; first | rfl | (simp [errW_none, errW_some] <;> rfl)) | (simp [*, errW_none, errW_some] <;> rfl), bA⟩
   rw [if_pos c8] at H
   have c8b0 := beq_iff_eq.mpr c8
   have c8b1 := bne_eq_false_iff_eq.mpr c8
   clear c8
   have H' := Aside0.mk H
   clear H
   have p132 : 0 ≤ (x5_1 : Int) := of_decide_eq_true aM
   have q132 : x5_1 < (l0.length : Int) := of_decide_eq_true aM
   obtain ⟨ad132, e132, hx132_0⟩ := Kd.at_int HR0.out x5_1 p132 q132
   cases e132
   replace hx132_0 := (HB.out.cell (World.block_lt_of_cell? w _ hx132_0)).trans hx132_0
   replace p132 := eq_true p132
   replace q132 := eq_true q132
   have p133 : 0 ≤ (x5_1 : Int) := of_decide_eq_true aM
   have q133 : x5_1 < (l1.length : Int) := of_decide_eq_true aM
   obtain ⟨ad133, e133, hx133_0⟩ := Kd.at_int HR1.out x5_1 p133 q133
   cases e133
   replace hx133_0 := (HB.out.cell (World.block_lt_of_cell? w _ hx133_0)).trans hx133_0
   replace p133 := eq_true p133
   replace q133 := eq_true q133
   go_wp2
   repeat (go_quiet (fail); try go_wp2)
   go_roundg k1
   case measure => have := HK1.out; omega
   case rel => exact ⟨(wrap64 (x5_1 + 1)), (by first | rfl | (simp; done) | (simp [*]; done)), (by first | exact H' | (rw [hji3]; exact H')), ⟨by have := HK1.out; omega⟩, ⟨bA⟩⟩
/-! ### sep_Common: function 111, by hand -/
def sep_Common.f (k : Nat) (a0 : ByteArray) (a1 : ByteArray) : Option (Int) := if a0.size ≤ 9223372036854775807 then (if a1.size ≤ 9223372036854775807 then (sep_shared_byte.f k (bytesOf a0) (bytesOf a1)) else (none)) else (none)
theorem sep_Common.mono : ∀ a0 a1 k, LeO (sep_Common.f k a0 a1) (sep_Common.f (k + 1) a0 a1) := by
 intro a0 a1 k
 unfold sep_Common.f
 exact LeO.ite (LeO.ite (sep_shared_byte.mono _ _ k) (LeO.none _)) (LeO.none _)
/-- '[]byte(s)', as the walk meets it. -/
theorem sep_bytes_run (s : ByteArray) (W : World) : (convert 9 98 (.string s)).run Tryz.prog W = .ok (.slice (some ⟨W.heap.size, 0, none⟩) (bytesOf s).length (grownCap W s.size 0 5)) (Lib.bytesWorld W 5 s) := by
 rw [bytesOf_length]
 exact print_bytes 9 98 5 Tryz.underlying9 Tryz.underlying98 Tryz.underlying5 s W
theorem sep_bytes_C (s : ByteArray) (W : World) (h : s.size ≤ 9223372036854775807) : Kd.C (Kd.int .u8) (Lib.bytesWorld W 5 s) (some ⟨W.heap.size, 0, none⟩) (bytesOf s).length (bytesOf s) := by
 have hr := bytes_reads W 5 s h
 rw [← bytesOf_length s] at hr
 exact Kd.C_of_reads (d := (0 : Int)) (h1 := fun _ => rfl) hr
set_option maxHeartbeats 1000000 in
theorem sep_Common.calls (k : Nat) (a0 : ByteArray) (a1 : ByteArray) (r : Int) (w : World) (h : sep_Common.f k a0 a1 = some r) :
  Calls Tryz.prog 111 #[.string a0, .string a1] w fun e w' => e = .returned (.int .i64 r) ∧ Below w.heap.size w w' := by
 unfold sep_Common.f at h
 by_cases h0 : a0.size ≤ 9223372036854775807
 rotate_left
 ·rw [if_neg h0] at h
  cases h
 
 
 by_cases h1 : a1.size ≤ 9223372036854775807
 rotate_left
 ·rw [if_pos h0, if_neg h1] at h
  cases h
 rw [if_pos h0, if_pos h1] at h
 have H := Aside0.mk h
 clear h
 have kb0 := sep_bytes_run a0
 have kb1 := sep_bytes_run a1
 have hC0 := as_ (sep_bytes_C a0 w h0)
 have hC1 := as_ (sep_bytes_C a1 (Lib.bytesWorld w 5 a0) h1)
 have hb0 := as_ (bytes_below (Below.refl w.heap.size w) (Nat.le_refl _) 5 a0)
 have hb1 := as_ (bytes_below (B := w.heap.size) hb0.out (by rw [Lib.bytesWorld_size]; omega) 5 a1)
 have hb2 := as_ (bytes_below (Below.refl (Lib.bytesWorld w 5 a0).heap.size (Lib.bytesWorld w 5 a0)) (Nat.le_refl _) 5 a1)
 have hg0 := as_ (Nat.le_trans (Nat.le_of_eq (bytesOf_length a0)) (grownCap_ge w a0.size 0 5))
 have hg1 := as_ (Nat.le_trans (Nat.le_of_eq (bytesOf_length a1)) (grownCap_ge (Lib.bytesWorld w 5 a0) a1.size 0 5))
 clear h0 h1
 go_enter Tryz.func111, Tryz.ntmps111
 go_wp2_with fail
 refine (sep_shared_byte.calls k _ _ _ _ _ _ r _ (Kd.C_below hC0.out hb2.out) hg0.out hC1.out hg1.out H.out).mono ?_
 rintro e w' ⟨rfl, hb⟩
 go_wp2
 go_ret
 exact ⟨rfl, hb1.out.trans (hb.mono (by rw [Lib.bytesWorld_size, Lib.bytesWorld_size]; omega))⟩
/-! ### sep_least: function 112 -/
def sep_least.l0 : Nat → Int → List Int → Int → Int → Option (Int)
 | 0, _, _, _, _ => none
 | k + 1, x0, x7, x8, x9 => if x9 < x8 then (if 0 ≤ x9 then (if x9 < (x7.length : Int) then (sep_least.l0 k (mn x0 (rd x7 x9)) x7 x8 (wrap64 (x9 + 1))) else (none)) else (none)) else (some x0)
def sep_least.f (k : Nat) (a0 : Int) (l1 : List Int) : Option (Int) := sep_least.l0 k a0 l1 (l1.length : Int) 0
theorem sep_least.mono_l : ∀ k, (∀ y0 y1 y2 y3, LeO (sep_least.l0 k y0 y1 y2 y3) (sep_least.l0 (k + 1) y0 y1 y2 y3))
 | 0 => fun _ _ _ _ r h => by simp [sep_least.l0] at h
 | k + 1 => by
  have ih0 := sep_least.mono_l k
  ·intro y0 y1 y2 y3
   unfold sep_least.l0
   repeat' first
   | (with_reducible exact ih0 _ _ _ _)
   | (with_reducible exact LeO.refl _)
   | (with_reducible exact LeO.none _)
   | (with_reducible refine LeO.ite ?_ ?_)
   | (with_reducible refine LeO.bind ?_ (fun _ => ?_))
   | exact ih0 _ _ _ _
   | exact LeO.none _
   | refine LeO.ite ?_ ?_
   | refine LeO.bind ?_ (fun _ => ?_)
theorem sep_least.mono : ∀ a0 a1 k, LeO (sep_least.f k a0 a1) (sep_least.f (k + 1) a0 a1) := by
 intro a0 a1 k
 have ih0 := sep_least.mono_l k
 unfold sep_least.f
 repeat' first
   | (with_reducible exact ih0 _ _ _ _)
   | (with_reducible exact LeO.refl _)
   | (with_reducible exact LeO.none _)
   | (with_reducible refine LeO.ite ?_ ?_)
   | (with_reducible refine LeO.bind ?_ (fun _ => ?_))
   | exact ih0 _ _ _ _
   | exact LeO.none _
   | refine LeO.ite ?_ ?_
   | refine LeO.bind ?_ (fun _ => ?_)
set_option maxHeartbeats 8000000 in
set_option maxRecDepth 100000 in
theorem sep_least.calls (k : Nat) (a0 : Int) (A1 : Option Addr) (c1 : Nat) (l1 : List Int) (r : Int) (w : World) (hr1 : Kd.C (Kd.int .i64) w A1 l1.length l1) (hc1 : l1.length ≤ c1) (h : sep_least.f k a0 l1 = some r) :
  Calls Tryz.prog 112 #[.int .i64 a0, .slice A1 l1.length c1] w fun e w' => e = .returned (.int .i64 r) ∧ Below w.heap.size w w' := by
 have HR1 := Aside0.mk hr1
 have HC1 := Aside0.mk hc1
 clear hr1 hc1
 have HB := as_ (Below.refl w.heap.size w)
 have H : (sep_least.l0 k a0 l1 (l1.length : Int) 0) = some r := h
 clear h
 have H' := Aside0.mk H
 clear H
 go_enter Tryz.func112, Tryz.ntmps112
 go_wp2
 go_loopg [0, 9] k (fun kq v0 v9 w' => ∃ (x0_1 : Int) (x9_1 : Int), v0 = .int .i64 x0_1 ∧ v9 = .int .i64 x9_1 ∧ Aside0 (sep_least.l0 kq x0_1 l1 (l1.length : Int) x9_1 = some r) ∧ Aside0 (kq ≤ k) ∧ Aside0 (Below w.heap.size w w'))
 case atStart => exact ⟨(a0), (0), (by first | rfl | (simp; done) | (simp [*]; done)), (by first | rfl | (simp; done) | (simp [*]; done)), H', ⟨Nat.le_refl _⟩, ⟨bA⟩⟩
 case round =>
  clear H'
  try clear c1
  try clear p2
  obtain ⟨x0_1, x9_1, rfl, rfl, HA, HK1, HB⟩ := hrel
  cases gk with
  | zero => exact absurd HA.out (by simp [sep_least.l0])
  | succ k1 =>
   have H := HA.out
   clear HA
   simp only [sep_least.l0] at H
   by_cases c3 : x9_1 < (l1.length : Int)
   rotate_left
   ·rw [if_neg c3] at H
    have c3b0 := decide_eq_false c3
    clear c3
    obtain rfl := Option.some.inj H
    go_wp2
    go_ret
    exact ⟨eW, bA⟩
 
   rw [if_pos c3] at H
   have c3b0 := decide_eq_true c3
   clear c3
   obtain ⟨c4, H⟩ := iN (c := 0 ≤ x9_1) H
   have c4b0 := decide_eq_true c4
   clear c4
   obtain ⟨c5, H⟩ := iN (c := x9_1 < (l1.length : Int)) H
   have c5b0 := decide_eq_true c5
   clear c5
   obtain ⟨ji6, hji6⟩ : ∃ j_ : Int, (mn x0_1 (rd l1 x9_1)) = j_ := ⟨_, rfl⟩
   replace H : (sep_least.l0 k1 ji6 l1 (l1.length : Int) (wrap64 (x9_1 + 1))) = some r := by first | (rw [hji6] at H; exact H) | (simp only [hji6] at H ⊢; exact H)
   have hji6_ : (if (rd l1 x9_1) < x0_1 then (rd l1 x9_1) else x0_1) = ji6 := hji6
   have H' := Aside0.mk H
   clear H
   have p134 : 0 ≤ (x9_1 : Int) := of_decide_eq_true aM
   have q134 : x9_1 < (l1.length : Int) := of_decide_eq_true aM
   obtain ⟨ad134, e134, hx134_0⟩ := Kd.at_int HR1.out x9_1 p134 q134
   cases e134
   replace hx134_0 := (HB.out.cell (World.block_lt_of_cell? w _ hx134_0)).trans hx134_0
   replace p134 := eq_true p134
   replace q134 := eq_true q134
   go_wp2
   go_roundg k1
   case measure => have := HK1.out; omega
   case rel => exact ⟨(ji6), (wrap64 (x9_1 + 1)), (by first | rfl | (simp; done) | (simp only [← hji6] <;> (first | rfl | simp)) | (simp [*]; done)), (by first | rfl | (simp; done) | (simp [*]; done)), (by first | exact H' | (rw [hji6]; exact H')), ⟨by have := HK1.out; omega⟩, ⟨bA⟩⟩
end Go.Proofs.YtafebmhmcdnhkaaGreat.P
