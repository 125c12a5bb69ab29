/- What is proved here: for functions of the Go text, a Lean function each, and that the call comes to just what it answers. Conditions: as each contract names them. Written by wip/tools/myprint.py, a driver of the print of the kit. -/
import Derived.Test.YtnfnmjjdcaphjaaP0
import Derived.Test.YtnfnmjjdcaphjaaP4
import Derived.Test.YtnfnmjjdcaphjaaP5
import Derived.Test.YtnfnmjjdcaphjaaP7
import Derived.Test.YtnfnmjjdcaphjaaWAbbr
namespace Go.Proofs.Ytnfnmjjdcaphjaa.P
open Go.RowKit Go.Proofs.YtnfnmjjdcaphjaaW.PrintWords Go.Proofs.YtnfnmjjdcaphjaaW.PrintLast Go.Proofs.YtnfnmjjdcaphjaaW.PrintMore Go.Proofs.YtnfnmjjdcaphjaaW.Abbr
-- PACKED
attribute [local go_sem] max2_int min2_int max_two min_two max_three min_three max_four min_four Go.Proofs.YtnfnmjjdcaphjaaLaws.str_leq Go.Proofs.YtnfnmjjdcaphjaaLaws.str_gtr Go.Proofs.YtnfnmjjdcaphjaaLaws.str_geq Go.Proofs.YtnfnmjjdcaphjaaLaws.max2_str Go.Proofs.YtnfnmjjdcaphjaaLaws.min2_str   -- for this text's walks alone
set_option linter.unusedVariables false
set_option linter.unusedSimpArgs false

/-! ### withylaw07_HeadBurst: function 5, by hand -/
def burst_x (x1 x2 x3 x4 : Int) (i : Nat) : Int := if i = 0 then x1 else if i = 1 then x2 else if i = 2 then x3 else x4
def burst_byte (s : ByteArray) (a m : Nat) (xs : Nat → Int) (i : Nat) : Int := if a ≤ i ∧ i < a + m then Go.bits .xor .u8 (bt s i) (xs (i - a)) else bt s i
def burst_list (s : ByteArray) (a m : Nat) (xs : Nat → Int) : List Int := (List.range s.size).map (burst_byte s a m xs)
def burst_high (a : Nat) : Nat := if 16 ≤ a then 128 else if 12 ≤ a then 16 else 12
def burst_low (a : Nat) : Nat := if 16 ≤ a then 16 else if 12 ≤ a then 12 else 0
def withylaw07_HeadBurst.f (k : Nat) (a0_0 a0_1 a0_2 a0_3 a0_4 : Int) (a1 : ByteArray) (a2_0 a2_1 a2_2 a2_3 a2_4 : Int) : Option Bool :=
 if 0 ≤ a2_0 ∧ a2_0 ≤ 255 then ((head_Seal.f k a0_0 a0_1 a0_2 a0_3 a0_4 (a1.extract 0 (min a1.size 112)) 128).bind fun s => (if s.2 = 0 then (if s.1.size = 128 then ((head_Open.f k (strOfNums (burst_list s.1 (a2_0 % 128).toNat (min 4 (burst_high (a2_0 % 128).toNat - (a2_0 % 128).toNat)) (burst_x a2_1 a2_2 a2_3 a2_4)))).bind fun o => (if decide (o.2.2.2.2.2.2 = 0) = decide ((strOfNums (burst_list s.1 (a2_0 % 128).toNat (min 4 (burst_high (a2_0 % 128).toNat - (a2_0 % 128).toNat)) (burst_x a2_1 a2_2 a2_3 a2_4))).toList = s.1.toList) then withylaw07_fixed.f k else none)) else none) else withylaw07_fixed.f k)) else none
theorem burst_bytes_run (s : ByteArray) (W : World) : (convert 9 44 (.string s)).run Try.prog W = .ok (.slice (some ⟨W.heap.size, 0, none⟩) s.size (grownCap W s.size 0 5)) (Lib.bytesWorld W 5 s) :=
 print_bytes 9 44 5 Try.underlying9 Try.underlying44 Try.underlying5 s W
theorem burst_len (s : ByteArray) (a m : Nat) (xs : Nat → Int) : (burst_list s a m xs).length = s.size := by simp [burst_list]
theorem burst_get (s : ByteArray) (a m : Nat) (xs : Nat → Int) (i : Nat) (h : i < s.size) : (burst_list s a m xs).getD i 0 = burst_byte s a m xs i := by
 unfold burst_list
 simp [List.getD_eq_getElem?_getD, List.getElem?_map, List.getElem?_range h]
theorem burst_frozen (W : World) (s : ByteArray) (j : Nat) (h : j < s.size) : (Lib.bytesWorld W 5 s).frozen? ⟨W.heap.size, j, none⟩ = false := by
 have hz : s.size ≤ (Lib.bytesCells W 5 s).size := by unfold Lib.bytesCells; simp
 simp only [World.frozen?, Lib.bytesWorld_at_new]
 simp
 omega
theorem burst_back (W : World) (g n cap : Nat) (xs : List Int) (hlen : xs.length = n) (hcell : ∀ i, i < n → W.cell? ⟨g, 0 + i, none⟩ = some (.int .u8 (xs.getD i 0))) : (convert 44 9 (.slice (some ⟨g, 0, none⟩) n cap)).run Try.prog W = .ok (.string (strOfNums xs)) W :=
 run_convert_bytes_arg (P := Try.prog) W 44 5 Try.underlying44 Try.underlying5 g 0 n cap xs hlen hcell 9 Try.underlying9
theorem burst_wrap (x : Int) (h0 : 0 ≤ x) (h1 : x < 1000) : IntKind.i64.wrap x = x := by rw [IntKind.wrap_i64]; omega
theorem burst_wrap64 (x : Int) (h0 : 0 ≤ x) (h1 : x < 1000) : wrap64 x = x := by unfold wrap64; omega
theorem burst_end {o : Int} {b t : ByteArray} {F : Option Bool} {r : Bool} (h : (if decide (o = 0) = decide (b.toList = t.toList) then F else none) = some r) : F = some r ∧ (((o == 0) = true ∧ (b.toList == t.toList) = true) ∨ ((o == 0) = false ∧ (b.toList == t.toList) = false)) := by
 by_cases p : o = 0 <;> by_cases q : b.toList = t.toList
 ·simp only [p, q, if_true] at h
  exact ⟨h, .inl ⟨beq_iff_eq.mpr p, beq_iff_eq.mpr q⟩⟩
 ·simp [p, q] at h
 ·simp [p, q] at h
 ·rw [if_pos (by rw [decide_eq_false p, decide_eq_false q])] at h
  exact ⟨h, .inr ⟨beq_eq_false_iff_ne.mpr p, beq_eq_false_iff_ne.mpr q⟩⟩
theorem withylaw07_HeadBurst.mono : ∀ a0_0 a0_1 a0_2 a0_3 a0_4 a1 a2_0 a2_1 a2_2 a2_3 a2_4 k, LeO (withylaw07_HeadBurst.f k a0_0 a0_1 a0_2 a0_3 a0_4 a1 a2_0 a2_1 a2_2 a2_3 a2_4) (withylaw07_HeadBurst.f (k + 1) a0_0 a0_1 a0_2 a0_3 a0_4 a1 a2_0 a2_1 a2_2 a2_3 a2_4) := by
 intro a0_0 a0_1 a0_2 a0_3 a0_4 a1 a2_0 a2_1 a2_2 a2_3 a2_4 k
 unfold withylaw07_HeadBurst.f
 exact LeO.ite (LeO.bind (head_Seal.mono _ _ _ _ _ _ _ _) (fun _ => LeO.ite (LeO.ite (LeO.bind (head_Open.mono _ _) (fun _ => LeO.ite (withylaw07_fixed.mono _) (LeO.none _))) (LeO.none _)) (withylaw07_fixed.mono _))) (LeO.none _)
set_option maxRecDepth 100000 in
set_option maxHeartbeats 8000000 in
theorem withylaw07_HeadBurst.calls (k : Nat) (a0_0 a0_1 a0_2 a0_3 a0_4 : Int) (a1 : ByteArray) (a2_0 a2_1 a2_2 a2_3 a2_4 : Int) (r : Bool) (w : World) (h : withylaw07_HeadBurst.f k a0_0 a0_1 a0_2 a0_3 a0_4 a1 a2_0 a2_1 a2_2 a2_3 a2_4 = some r) :
  Calls Try.prog 5 #[.agg #[.int .i64 a0_0, .int .i64 a0_1, .int .i64 a0_2, .int .i64 a0_3, .int .i64 a0_4], .string a1, .agg #[.int .u8 a2_0, .int .u8 a2_1, .int .u8 a2_2, .int .u8 a2_3, .int .u8 a2_4]] w fun e w' => e = .returned (.bool r) ∧ Below w.heap.size w w' := by
 unfold withylaw07_HeadBurst.f at h
 by_cases hx : 0 ≤ a2_0 ∧ a2_0 ≤ 255
 rotate_left
 ·rw [if_neg hx] at h; cases h
 rw [if_pos hx] at h
 replace h := Option.bind_eq_some_iff.mp h
 obtain ⟨⟨t1, t2⟩, A10, h⟩ := h
 obtain ⟨js, hjs⟩ : ∃ js, js = a1.extract 0 (min a1.size 112) := ⟨_, rfl⟩
 rw [← hjs] at A10
 have A1 := Aside0.mk A10
 have HX := Aside0.mk hx
 have H := Aside0.mk h
 clear h A10 hx
 have hW1 : ∀ W1 : World, W1 = (w.alloc (.cells #[.int .i64 a0_0, .int .i64 a0_1, .int .i64 a0_2, .int .i64 a0_3, .int .i64 a0_4] 23)).alloc (.cells #[.int .u8 a2_0, .int .u8 a2_1, .int .u8 a2_2, .int .u8 a2_3, .int .u8 a2_4] 43) → W1.heap[w.heap.size]? = some (.cells #[.int .i64 a0_0, .int .i64 a0_1, .int .i64 a0_2, .int .i64 a0_3, .int .i64 a0_4] 23 (0, 0)) ∧ W1.heap[w.heap.size + 1]? = some (.cells #[.int .u8 a2_0, .int .u8 a2_1, .int .u8 a2_2, .int .u8 a2_3, .int .u8 a2_4] 43 (0, 0)) ∧ W1.heap.size = w.heap.size + 2 ∧ Below w.heap.size w W1 := by
  rintro W1 rfl
  have n1 := blk_new w (.cells #[.int .i64 a0_0, .int .i64 a0_1, .int .i64 a0_2, .int .i64 a0_3, .int .i64 a0_4] 23)
  have n2 := blk_new (w.alloc (.cells #[.int .i64 a0_0, .int .i64 a0_1, .int .i64 a0_2, .int .i64 a0_3, .int .i64 a0_4] 23)) (.cells #[.int .u8 a2_0, .int .u8 a2_1, .int .u8 a2_2, .int .u8 a2_3, .int .u8 a2_4] 43)
  rw [World.size_alloc] at n2
  exact ⟨blk_alloc n1 _, n2, by simp, below_alloc (below_alloc (Below.refl _ _) _) _⟩
 have HQ := Aside0.mk hW1
 clear hW1
 have HJ : Aside0 ((a1.size : Int) ≤ 112 → js = a1) := ⟨fun q => by rw [hjs, Nat.min_eq_left (by omega)]; simp⟩
 have HJ2 : Aside0 (¬ (a1.size : Int) ≤ 112 → js = a1.extract 0 112) := ⟨fun q => by rw [hjs, Nat.min_eq_right (by omega)]⟩
 clear hjs
 go_enter Try.func5, Try.ntmps5
 (try simp only [List.append_eq, List.cons_append, List.nil_append])
 go_upto_region 1 with fail
 obtain ⟨W1, hW1⟩ : ∃ W1, W1 = (w.alloc (.cells #[.int .i64 a0_0, .int .i64 a0_1, .int .i64 a0_2, .int .i64 a0_3, .int .i64 a0_4] 23)).alloc (.cells #[.int .u8 a2_0, .int .u8 a2_1, .int .u8 a2_2, .int .u8 a2_3, .int .u8 a2_4] 43) := ⟨_, rfl⟩
 rw [← hW1]
 obtain ⟨hb0, hb1, hz1, hbel⟩ := HQ.out W1 hW1
 clear hW1 HQ
 have HP1 := Aside0.mk hb1
 have HZ1 := Aside0.mk hz1
 have HL1 := Aside0.mk hbel
 have hc0 : W1.cell? ⟨w.heap.size, 0, none⟩ = some (.int .i64 a0_0) := blk_cell hb0 0
 have hc1 : W1.cell? ⟨w.heap.size, 1, none⟩ = some (.int .i64 a0_1) := blk_cell hb0 1
 have hc2 : W1.cell? ⟨w.heap.size, 2, none⟩ = some (.int .i64 a0_2) := blk_cell hb0 2
 have hc3 : W1.cell? ⟨w.heap.size, 3, none⟩ = some (.int .i64 a0_3) := blk_cell hb0 3
 have hc4 : W1.cell? ⟨w.heap.size, 4, none⟩ = some (.int .i64 a0_4) := blk_cell hb0 4
 have HKP : Aside0 (∀ W' : World, Below W1.heap.size W1 W' → W'.cell? ⟨w.heap.size, 0, none⟩ = some (.int .i64 a0_0) ∧ W'.cell? ⟨w.heap.size, 1, none⟩ = some (.int .i64 a0_1) ∧ W'.cell? ⟨w.heap.size, 2, none⟩ = some (.int .i64 a0_2) ∧ W'.cell? ⟨w.heap.size, 3, none⟩ = some (.int .i64 a0_3) ∧ W'.cell? ⟨w.heap.size, 4, none⟩ = some (.int .i64 a0_4)) := ⟨fun W' hb => by
  have hl : w.heap.size < W1.heap.size := by omega
  exact ⟨(hb.cell (p := ⟨w.heap.size, 0, none⟩) hl).trans hc0, (hb.cell (p := ⟨w.heap.size, 1, none⟩) hl).trans hc1, (hb.cell (p := ⟨w.heap.size, 2, none⟩) hl).trans hc2, (hb.cell (p := ⟨w.heap.size, 3, none⟩) hl).trans hc3, (hb.cell (p := ⟨w.heap.size, 4, none⟩) hl).trans hc4⟩⟩
 clear hb0 hb1 hz1 hbel hc0 hc1 hc2 hc3 hc4
 obtain ⟨ji, hji⟩ : ∃ ji : Int, (if (a1.size : Int) ≤ 112 then (a1.size : Int) else 112) = ji := ⟨_, rfl⟩
 have hj0 : 0 ≤ ji := by split at hji <;> omega
 have hj1 : ji ≤ (a1.size : Int) := by split at hji <;> omega
 have hjs : a1.extract 0 ji.toNat = js := by
  by_cases hq : (a1.size : Int) ≤ 112
  rotate_left
  ·rw [if_neg hq] at hji
   rw [HJ2.out hq, ← hji]
   rfl
  rw [if_pos hq] at hji
  rw [HJ.out hq, ← hji]
  simp
 clear HJ HJ2
 have hji2 : (if (112 : Int) < (a1.size : Int) then 112 else (a1.size : Int)) = ji := by split at hji <;> split <;> omega
 have hji3 : (if (a1.size : Int) < 112 then (a1.size : Int) else 112) = ji := by split at hji <;> split <;> omega
 have hji4 : (if (112 : Int) ≤ (a1.size : Int) then 112 else (a1.size : Int)) = ji := by split at hji <;> split <;> omega
 have pj := eq_true hj0
 have qj := eq_true hj1
 go_region_held3 (fun W' : World => W'.cell? ⟨w.heap.size, 0, none⟩ = some (.int .i64 a0_0) ∧ W'.cell? ⟨w.heap.size, 1, none⟩ = some (.int .i64 a0_1) ∧ W'.cell? ⟨w.heap.size, 2, none⟩ = some (.int .i64 a0_2) ∧ W'.cell? ⟨w.heap.size, 3, none⟩ = some (.int .i64 a0_3) ∧ W'.cell? ⟨w.heap.size, 4, none⟩ = some (.int .i64 a0_4) ∧ Below W1.heap.size W1 W') ((refine ⟨(HKP.out _ ?_).1, (HKP.out _ ?_).2.1, (HKP.out _ ?_).2.2.1, (HKP.out _ ?_).2.2.2.1, (HKP.out _ ?_).2.2.2.2, ?_⟩ <;> repeat (first | exact Below.refl _ _ | assumption | apply pw_below_drewN | apply below_drew1))) (first | ((try go_simp); go_at_call 9; (refine (head_Seal.calls k a0_0 a0_1 a0_2 a0_3 a0_4 js 128 t1 t2 _ A1.out).mono ?_); rintro e w31 ⟨rfl, hb⟩; have HB31 : Below W1.heap.size W1 w31 := below_step (by repeat (first | exact Below.refl _ _ | apply pw_below_drewN | apply below_drew1)) hb))
 have HB1 := as_ (HL1.out.trans (HB31.mono (by rw [HZ1.out]; omega)))
 have HP := as_ (show w31.heap[w.heap.size + 1]? = some (.cells #[.int .u8 a2_0, .int .u8 a2_1, .int .u8 a2_2, .int .u8 a2_3, .int .u8 a2_4] 43 (0, 0)) from blk_below HP1.out HB31)
 clear HKP HP1 HL1 hb HB31 hji hji2 hji3 hji4 hj0 hj1 hjs pj qj
 have h := H.out
 clear H
 (try dsimp only at h)
 by_cases c2 : t2 = 0
 rotate_left
 ·rw [if_neg c2] at h
  have AF := Aside0.mk h
  have c2b0 : (t2 == 0) = false := beq_eq_false_iff_ne.mpr c2
  have c2b1 : (t2 != 0) = true := bne_iff_ne.mpr c2
  clear c2 h
  go_wp2_with (first | (go_at_call 16; (with_reducible refine (withylaw07_fixed.calls k r _ AF.out).mono ?_); rintro e w4 ⟨rfl, hb4⟩; have HB4 := as_ (below_step HB1.out hb4)))
  go_ret
  exact ⟨by first | rfl | (simp; done), by repeat (first | exact HB4.out | apply pw_below_drewN | apply below_drew1)⟩
 rw [if_pos c2] at h
 have c2b0 : (t2 == 0) = true := beq_iff_eq.mpr c2
 have c2b1 : (t2 != 0) = false := bne_eq_false_iff_eq.mpr c2
 clear c2
 by_cases c3 : t1.size = 128
 rotate_left
 ·rw [if_neg c3] at h; cases h
 rw [if_pos c3] at h
 have c3b0 : ((t1.size : Int) == 128) = true := beq_iff_eq.mpr (by omega)
 have c3b1 : ((t1.size : Int) != 128) = false := bne_eq_false_iff_eq.mpr (by omega)
 obtain ⟨a, ha⟩ : ∃ a, a = (a2_0 % 128).toNat := ⟨_, rfl⟩
 have hal : a < 128 := by omega
 have hx := HX.out
 have hmod : Int.tmod a2_0 128 = (a : Int) := by rw [Int.tmod_eq_emod_of_nonneg (by omega)]; omega
 have hw0 : wrap64 a2_0 = a2_0 := by unfold wrap64; omega
 have hw1 : IntKind.i64.wrap a2_0 = a2_0 := by rw [IntKind.wrap_i64]; omega
 rw [← ha] at h
 have HH := Aside0.mk h
 have HC3 := Aside0.mk c3
 clear h c3 ha hx HX
 have kb := burst_bytes_run t1
 have HBB := as_ (bytes_below (Below.refl w31.heap.size w31) (Nat.le_refl _) 5 t1)
 have hA : (Lib.bytesWorld w31 5 t1).cell? ⟨w.heap.size + 1, 0, none⟩ = some (.int .u8 a2_0) := (HBB.out.cell (p := ⟨w.heap.size + 1, 0, none⟩) (blk_lt HP.out)).trans (blk_cell HP.out 0)
 -- ARMS
 by_cases g16 : 16 ≤ a
 ·have g1 : decide ((16 : Int) ≤ (a : Int)) = true := decide_eq_true (by omega)
  have hhi : burst_high a = 128 := by unfold burst_high; (repeat (first | rw [if_pos (by omega)] | rw [if_neg (by omega)]))
  go_wp2
  go_loopg [13] 5 (fun kq v13 w' => ∃ j : Nat, v13 = .int .i64 (j : Int) ∧ Aside0 (j ≤ 4 ∧ kq + j = 5 ∧ (j = 0 ∨ a + j ≤ 128)) ∧ Aside0 (Below w31.heap.size w31 w' ∧ w31.heap.size < w'.heap.size) ∧ Aside0 (∀ i, i < 128 → w'.cell? ⟨w31.heap.size, i, none⟩ = some (.int .u8 (burst_byte t1 a j (burst_x a2_1 a2_2 a2_3 a2_4) i)) ∧ w'.frozen? ⟨w31.heap.size, i, none⟩ = false))
  case atStart =>
   refine ⟨0, rfl, ⟨by omega, by omega, .inl rfl⟩, ⟨HBB.out, by rw [Lib.bytesWorld_size]; omega⟩, ⟨fun i hi => ⟨?_, burst_frozen w31 t1 i (by rw [HC3.out]; exact hi)⟩⟩⟩
   rw [Lib.bytesWorld_cell w31 5 t1 i (by rw [HC3.out]; exact hi)]
   have hm : burst_byte t1 a 0 (burst_x a2_1 a2_2 a2_3 a2_4) i = bt t1 i := by unfold burst_byte; rw [if_neg (by omega)]
   rw [hm]
   have hb := bt_at t1 (i : Int)
   simp only [Int.toNat_natCast] at hb
   rw [← hb (by rw [HC3.out]; exact hi)]
   simp [List.getD_eq_getElem?_getD, List.getElem?_eq_getElem (show i < t1.data.toList.length by rw [data_length, HC3.out]; exact hi), ByteArray.getElem_eq_getElem_data]
  case round =>
   clear kb hA
   obtain ⟨j, rfl, ⟨hj1, hj2, hj3⟩, ⟨hb, hsz⟩, ⟨hcs⟩⟩ := hrel
   have HB2 := Aside0.mk hb
   have HS2 := Aside0.mk hsz
   have HC2 := Aside0.mk hcs
   clear hb hsz hcs
   by_cases hR : j < 4 ∧ a + j < 128
   ·obtain ⟨hA1, hB1⟩ := hR
    have d1 : decide ((j : Int) < 4) = true := decide_eq_true (by omega)
    have d2 : decide ((a : Int) + (j : Int) < 128) = true := decide_eq_true (by omega)
    have d3 : ((a : Int) + (j : Int) < 16) = False := eq_false (by omega)
    have d4 : ((16 : Int) ≤ (a : Int) + (j : Int)) = True := eq_true (by omega)
    have d5 : (0 ≤ (a : Int) + (j : Int)) = True := eq_true (by omega)
    have d6 : ((a : Int) + (j : Int)).toNat = a + j := by omega
    have hc := (HC2.out (a + j) (by omega)).1
    have hf := (HC2.out (a + j) (by omega)).2
    have hcx : wr.cell? ⟨w.heap.size + 1, 1 + j, none⟩ = some (.int .u8 (burst_x a2_1 a2_2 a2_3 a2_4 j)) := by
     refine (HB2.out.cell (p := ⟨w.heap.size + 1, 1 + j, none⟩) (blk_lt HP.out)).trans ((blk_cell HP.out (1 + j)).trans ?_)
     rcases (show j = 0 ∨ j = 1 ∨ j = 2 ∨ j = 3 by omega) with rfl | rfl | rfl | rfl <;> rfl
    have q0 : ((a : Int) + (j : Int) < (t1.size : Int)) = True := eq_true (by rw [HC3.out]; omega)
    have q1 : ((j : Int) < 4) = True := eq_true (by omega)
    have q2 : (a + j < t1.size) = True := eq_true (by rw [HC3.out]; omega)
    have q3 : (j < 4) = True := eq_true hA1
    have o1 : 0 ≤ (a : Int) + (j : Int) ∧ (a : Int) + (j : Int) < 1000 := by omega
    have o2 : 0 ≤ (j : Int) + 1 ∧ (j : Int) + 1 < 1000 := by omega
    have hw := burst_wrap _ o1.1 o1.2
    have hwb := burst_wrap64 _ o1.1 o1.2
    have hw2 : IntKind.i64.wrap ((j : Int) + 1) = ((j + 1 : Nat) : Int) := burst_wrap _ o2.1 o2.2
    have hw2b : wrap64 ((j : Int) + 1) = ((j + 1 : Nat) : Int) := burst_wrap64 _ o2.1 o2.2
    clear o1 o2
    go_wp2
    go_region
    go_wp2
    clear hw hwb hw2 hw2b
    go_roundg (4 - j)
    ·refine ⟨j + 1, rfl, ⟨by omega, by omega, .inr (by omega)⟩, ⟨below_drew1 (HB2.out.setCell (p := ⟨w31.heap.size, a + j, none⟩) (Nat.le_refl _) _), ?_⟩, ⟨fun i hi => ⟨?_, ?_⟩⟩⟩
     ·show _ < (World.setCell _ _ _).heap.size
      rw [World.size_setCell]
      exact HS2.out
     ·show (World.setCell _ _ _).cell? _ = _
      by_cases hij : i = a + j
      ·subst hij
       have hm : burst_byte t1 a (j + 1) (burst_x a2_1 a2_2 a2_3 a2_4) (a + j) = Go.bits .xor .u8 (burst_byte t1 a j (burst_x a2_1 a2_2 a2_3 a2_4) (a + j)) (burst_x a2_1 a2_2 a2_3 a2_4 j) := by
        unfold burst_byte
        rw [if_pos (by omega), if_neg (by omega), Nat.add_sub_cancel_left]
       rw [hm]
       exact World.cell?_setCell_same _ _ _ hc
      have hm : burst_byte t1 a (j + 1) (burst_x a2_1 a2_2 a2_3 a2_4) i = burst_byte t1 a j (burst_x a2_1 a2_2 a2_3 a2_4) i := by
       unfold burst_byte
       by_cases h3 : a ≤ i ∧ i < a + j
       rotate_left
       ·rw [if_neg h3, if_neg (by omega)]
       rw [if_pos h3, if_pos (by omega)]
      rw [hm, World.cell?_setCell_other (h := fun e => hij (by injection e with _ e2 _; exact e2.symm))]
      exact (HC2.out i hi).1
     ·show (World.setCell _ _ _).frozen? _ = _
      rw [World.frozen?_setCell]
      exact (HC2.out i hi).2
    ·omega
   have hjm : min 4 (128 - a) = j := by omega
   obtain ⟨b, hbb⟩ : ∃ b, b = strOfNums (burst_list t1 a j (burst_x a2_1 a2_2 a2_3 a2_4)) := ⟨_, rfl⟩
   have HBK : Aside0 (∀ W : World, Below wr.heap.size wr W → (convert 44 9 (.slice (some ⟨w31.heap.size, 0, none⟩) t1.size (grownCap w31 t1.size 0 5))).run Try.prog W = .ok (.string b) W) := ⟨fun W hW => by
    rw [hbb]
    refine burst_back W w31.heap.size t1.size _ _ (burst_len _ _ _ _) (fun i hi => ?_)
    rw [Nat.zero_add, burst_get _ _ _ _ i hi]
    exact (hW.cell (p := ⟨w31.heap.size, i, none⟩) HS2.out).trans (HC2.out i (by rw [← HC3.out]; exact hi)).1⟩
   have H5 := HH.out
   rw [hhi, hjm, ← hbb] at H5
   clear HH hbb hjm
   replace H5 := bM H5
   obtain ⟨⟨o1, o2, o3, o4, o5, o6, o7⟩, AO0, H5⟩ := H5
   have AO := Aside0.mk AO0
   have HO := Aside0.mk H5
   clear AO0 H5
   have hback := HBK.out wr (Below.refl _ _)
   rcases (show (¬ j < 4) ∨ (j < 4 ∧ ¬ a + j < 128) by omega) with hR2 | hR2
   ·have d1 : decide ((j : Int) < 4) = false := decide_eq_false (by omega)
    clear hR hR2 hj3
    go_upto_region 18 with (first | (go_at_call 12; (with_reducible refine (head_Open.calls k b o1 o2 o3 o4 o5 o6 o7 _ AO.out).mono ?_); rintro e w5 ⟨rfl, hb5⟩))
    clear hback
    have hback := HBK.out (w5.alloc (.cells #[.int .i64 o1, .int .i64 o2, .int .i64 o3, .int .i64 o4, .int .i64 o5] 23)) (below_alloc hb5 _)
    have HB5 := as_ (below_alloc (below_step HB1.out (below_step HB2.out hb5)) (.cells #[.int .i64 o1, .int .i64 o2, .int .i64 o3, .int .i64 o4, .int .i64 o5] 23))
    clear hb5
    obtain ⟨F5, e⟩ := burst_end HO.out
    have AF := Aside0.mk F5
    clear HO F5
    rcases e with ⟨e1, e2⟩ | ⟨e1, e2⟩
    rotate_left
    ·go_wp2_with (first | (go_at_call 16; (with_reducible refine (withylaw07_fixed.calls k r _ AF.out).mono ?_); rintro e w4 ⟨rfl, hb4⟩; have HB4 := as_ (below_step HB5.out hb4)))
     go_ret
     exact ⟨by first | rfl | (simp; done), by repeat (first | exact HB4.out | apply pw_below_drewN | apply below_drew1)⟩
    go_wp2_with (first | (go_at_call 16; (with_reducible refine (withylaw07_fixed.calls k r _ AF.out).mono ?_); rintro e w4 ⟨rfl, hb4⟩; have HB4 := as_ (below_step HB5.out hb4)))
    go_ret
    exact ⟨by first | rfl | (simp; done), by repeat (first | exact HB4.out | apply pw_below_drewN | apply below_drew1)⟩
   obtain ⟨hR2, hR3⟩ := hR2
   have d1 : decide ((j : Int) < 4) = true := decide_eq_true (by omega)
   have o1 : 0 ≤ (a : Int) + (j : Int) ∧ (a : Int) + (j : Int) < 1000 := by omega
   have d2 : decide ((a : Int) + (j : Int) < 128) = false := decide_eq_false (by omega)
   clear hR hR2 hR3 hj3
   have hw := burst_wrap _ o1.1 o1.2
   have hwb := burst_wrap64 _ o1.1 o1.2
   clear o1
   go_upto_region 18 with (first | (go_at_call 12; (with_reducible refine (head_Open.calls k b o1 o2 o3 o4 o5 o6 o7 _ AO.out).mono ?_); rintro e w5 ⟨rfl, hb5⟩))
   clear hback
   have hback := HBK.out (w5.alloc (.cells #[.int .i64 o1, .int .i64 o2, .int .i64 o3, .int .i64 o4, .int .i64 o5] 23)) (below_alloc hb5 _)
   have HB5 := as_ (below_alloc (below_step HB1.out (below_step HB2.out hb5)) (.cells #[.int .i64 o1, .int .i64 o2, .int .i64 o3, .int .i64 o4, .int .i64 o5] 23))
   clear hb5
   obtain ⟨F5, e⟩ := burst_end HO.out
   have AF := Aside0.mk F5
   clear HO F5
   rcases e with ⟨e1, e2⟩ | ⟨e1, e2⟩
   rotate_left
   ·go_wp2_with (first | (go_at_call 16; (with_reducible refine (withylaw07_fixed.calls k r _ AF.out).mono ?_); rintro e w4 ⟨rfl, hb4⟩; have HB4 := as_ (below_step HB5.out hb4)))
    go_ret
    exact ⟨by first | rfl | (simp; done), by repeat (first | exact HB4.out | apply pw_below_drewN | apply below_drew1)⟩
   go_wp2_with (first | (go_at_call 16; (with_reducible refine (withylaw07_fixed.calls k r _ AF.out).mono ?_); rintro e w4 ⟨rfl, hb4⟩; have HB4 := as_ (below_step HB5.out hb4)))
   go_ret
   exact ⟨by first | rfl | (simp; done), by repeat (first | exact HB4.out | apply pw_below_drewN | apply below_drew1)⟩
 by_cases g12 : 12 ≤ a
 ·have g1 : decide ((16 : Int) ≤ (a : Int)) = false := decide_eq_false (by omega)
  have g2 : decide ((12 : Int) ≤ (a : Int)) = true := decide_eq_true (by omega)
  have hhi : burst_high a = 16 := by unfold burst_high; (repeat (first | rw [if_pos (by omega)] | rw [if_neg (by omega)]))
  go_wp2
  go_loopg [13] 5 (fun kq v13 w' => ∃ j : Nat, v13 = .int .i64 (j : Int) ∧ Aside0 (j ≤ 4 ∧ kq + j = 5 ∧ (j = 0 ∨ a + j ≤ 16)) ∧ Aside0 (Below w31.heap.size w31 w' ∧ w31.heap.size < w'.heap.size) ∧ Aside0 (∀ i, i < 128 → w'.cell? ⟨w31.heap.size, i, none⟩ = some (.int .u8 (burst_byte t1 a j (burst_x a2_1 a2_2 a2_3 a2_4) i)) ∧ w'.frozen? ⟨w31.heap.size, i, none⟩ = false))
  case atStart =>
   refine ⟨0, rfl, ⟨by omega, by omega, .inl rfl⟩, ⟨HBB.out, by rw [Lib.bytesWorld_size]; omega⟩, ⟨fun i hi => ⟨?_, burst_frozen w31 t1 i (by rw [HC3.out]; exact hi)⟩⟩⟩
   rw [Lib.bytesWorld_cell w31 5 t1 i (by rw [HC3.out]; exact hi)]
   have hm : burst_byte t1 a 0 (burst_x a2_1 a2_2 a2_3 a2_4) i = bt t1 i := by unfold burst_byte; rw [if_neg (by omega)]
   rw [hm]
   have hb := bt_at t1 (i : Int)
   simp only [Int.toNat_natCast] at hb
   rw [← hb (by rw [HC3.out]; exact hi)]
   simp [List.getD_eq_getElem?_getD, List.getElem?_eq_getElem (show i < t1.data.toList.length by rw [data_length, HC3.out]; exact hi), ByteArray.getElem_eq_getElem_data]
  case round =>
   clear kb hA
   obtain ⟨j, rfl, ⟨hj1, hj2, hj3⟩, ⟨hb, hsz⟩, ⟨hcs⟩⟩ := hrel
   have HB2 := Aside0.mk hb
   have HS2 := Aside0.mk hsz
   have HC2 := Aside0.mk hcs
   clear hb hsz hcs
   by_cases hR : j < 4 ∧ a + j < 16
   ·obtain ⟨hA1, hB1⟩ := hR
    have d1 : decide ((j : Int) < 4) = true := decide_eq_true (by omega)
    have d2 : decide ((a : Int) + (j : Int) < 16) = true := decide_eq_true (by omega)
    have d3 : ((a : Int) + (j : Int) < 12) = False := eq_false (by omega)
    have d4 : ((12 : Int) ≤ (a : Int) + (j : Int)) = True := eq_true (by omega)
    have d5 : (0 ≤ (a : Int) + (j : Int)) = True := eq_true (by omega)
    have d6 : ((a : Int) + (j : Int)).toNat = a + j := by omega
    have hc := (HC2.out (a + j) (by omega)).1
    have hf := (HC2.out (a + j) (by omega)).2
    have hcx : wr.cell? ⟨w.heap.size + 1, 1 + j, none⟩ = some (.int .u8 (burst_x a2_1 a2_2 a2_3 a2_4 j)) := by
     refine (HB2.out.cell (p := ⟨w.heap.size + 1, 1 + j, none⟩) (blk_lt HP.out)).trans ((blk_cell HP.out (1 + j)).trans ?_)
     rcases (show j = 0 ∨ j = 1 ∨ j = 2 ∨ j = 3 by omega) with rfl | rfl | rfl | rfl <;> rfl
    have q0 : ((a : Int) + (j : Int) < (t1.size : Int)) = True := eq_true (by rw [HC3.out]; omega)
    have q1 : ((j : Int) < 4) = True := eq_true (by omega)
    have q2 : (a + j < t1.size) = True := eq_true (by rw [HC3.out]; omega)
    have q3 : (j < 4) = True := eq_true hA1
    have o1 : 0 ≤ (a : Int) + (j : Int) ∧ (a : Int) + (j : Int) < 1000 := by omega
    have o2 : 0 ≤ (j : Int) + 1 ∧ (j : Int) + 1 < 1000 := by omega
    have hw := burst_wrap _ o1.1 o1.2
    have hwb := burst_wrap64 _ o1.1 o1.2
    have hw2 : IntKind.i64.wrap ((j : Int) + 1) = ((j + 1 : Nat) : Int) := burst_wrap _ o2.1 o2.2
    have hw2b : wrap64 ((j : Int) + 1) = ((j + 1 : Nat) : Int) := burst_wrap64 _ o2.1 o2.2
    clear o1 o2
    go_wp2
    go_region
    go_wp2
    clear hw hwb hw2 hw2b
    go_roundg (4 - j)
    ·refine ⟨j + 1, rfl, ⟨by omega, by omega, .inr (by omega)⟩, ⟨below_drew1 (HB2.out.setCell (p := ⟨w31.heap.size, a + j, none⟩) (Nat.le_refl _) _), ?_⟩, ⟨fun i hi => ⟨?_, ?_⟩⟩⟩
     ·show _ < (World.setCell _ _ _).heap.size
      rw [World.size_setCell]
      exact HS2.out
     ·show (World.setCell _ _ _).cell? _ = _
      by_cases hij : i = a + j
      ·subst hij
       have hm : burst_byte t1 a (j + 1) (burst_x a2_1 a2_2 a2_3 a2_4) (a + j) = Go.bits .xor .u8 (burst_byte t1 a j (burst_x a2_1 a2_2 a2_3 a2_4) (a + j)) (burst_x a2_1 a2_2 a2_3 a2_4 j) := by
        unfold burst_byte
        rw [if_pos (by omega), if_neg (by omega), Nat.add_sub_cancel_left]
       rw [hm]
       exact World.cell?_setCell_same _ _ _ hc
      have hm : burst_byte t1 a (j + 1) (burst_x a2_1 a2_2 a2_3 a2_4) i = burst_byte t1 a j (burst_x a2_1 a2_2 a2_3 a2_4) i := by
       unfold burst_byte
       by_cases h3 : a ≤ i ∧ i < a + j
       rotate_left
       ·rw [if_neg h3, if_neg (by omega)]
       rw [if_pos h3, if_pos (by omega)]
      rw [hm, World.cell?_setCell_other (h := fun e => hij (by injection e with _ e2 _; exact e2.symm))]
      exact (HC2.out i hi).1
     ·show (World.setCell _ _ _).frozen? _ = _
      rw [World.frozen?_setCell]
      exact (HC2.out i hi).2
    ·omega
   have hjm : min 4 (16 - a) = j := by omega
   obtain ⟨b, hbb⟩ : ∃ b, b = strOfNums (burst_list t1 a j (burst_x a2_1 a2_2 a2_3 a2_4)) := ⟨_, rfl⟩
   have HBK : Aside0 (∀ W : World, Below wr.heap.size wr W → (convert 44 9 (.slice (some ⟨w31.heap.size, 0, none⟩) t1.size (grownCap w31 t1.size 0 5))).run Try.prog W = .ok (.string b) W) := ⟨fun W hW => by
    rw [hbb]
    refine burst_back W w31.heap.size t1.size _ _ (burst_len _ _ _ _) (fun i hi => ?_)
    rw [Nat.zero_add, burst_get _ _ _ _ i hi]
    exact (hW.cell (p := ⟨w31.heap.size, i, none⟩) HS2.out).trans (HC2.out i (by rw [← HC3.out]; exact hi)).1⟩
   have H5 := HH.out
   rw [hhi, hjm, ← hbb] at H5
   clear HH hbb hjm
   replace H5 := bM H5
   obtain ⟨⟨o1, o2, o3, o4, o5, o6, o7⟩, AO0, H5⟩ := H5
   have AO := Aside0.mk AO0
   have HO := Aside0.mk H5
   clear AO0 H5
   have hback := HBK.out wr (Below.refl _ _)
   rcases (show (¬ j < 4) ∨ (j < 4 ∧ ¬ a + j < 16) by omega) with hR2 | hR2
   ·have d1 : decide ((j : Int) < 4) = false := decide_eq_false (by omega)
    clear hR hR2 hj3
    go_upto_region 18 with (first | (go_at_call 12; (with_reducible refine (head_Open.calls k b o1 o2 o3 o4 o5 o6 o7 _ AO.out).mono ?_); rintro e w5 ⟨rfl, hb5⟩))
    clear hback
    have hback := HBK.out (w5.alloc (.cells #[.int .i64 o1, .int .i64 o2, .int .i64 o3, .int .i64 o4, .int .i64 o5] 23)) (below_alloc hb5 _)
    have HB5 := as_ (below_alloc (below_step HB1.out (below_step HB2.out hb5)) (.cells #[.int .i64 o1, .int .i64 o2, .int .i64 o3, .int .i64 o4, .int .i64 o5] 23))
    clear hb5
    obtain ⟨F5, e⟩ := burst_end HO.out
    have AF := Aside0.mk F5
    clear HO F5
    rcases e with ⟨e1, e2⟩ | ⟨e1, e2⟩
    rotate_left
    ·go_wp2_with (first | (go_at_call 16; (with_reducible refine (withylaw07_fixed.calls k r _ AF.out).mono ?_); rintro e w4 ⟨rfl, hb4⟩; have HB4 := as_ (below_step HB5.out hb4)))
     go_ret
     exact ⟨by first | rfl | (simp; done), by repeat (first | exact HB4.out | apply pw_below_drewN | apply below_drew1)⟩
    go_wp2_with (first | (go_at_call 16; (with_reducible refine (withylaw07_fixed.calls k r _ AF.out).mono ?_); rintro e w4 ⟨rfl, hb4⟩; have HB4 := as_ (below_step HB5.out hb4)))
    go_ret
    exact ⟨by first | rfl | (simp; done), by repeat (first | exact HB4.out | apply pw_below_drewN | apply below_drew1)⟩
   obtain ⟨hR2, hR3⟩ := hR2
   have d1 : decide ((j : Int) < 4) = true := decide_eq_true (by omega)
   have o1 : 0 ≤ (a : Int) + (j : Int) ∧ (a : Int) + (j : Int) < 1000 := by omega
   have d2 : decide ((a : Int) + (j : Int) < 16) = false := decide_eq_false (by omega)
   clear hR hR2 hR3 hj3
   have hw := burst_wrap _ o1.1 o1.2
   have hwb := burst_wrap64 _ o1.1 o1.2
   clear o1
   go_upto_region 18 with (first | (go_at_call 12; (with_reducible refine (head_Open.calls k b o1 o2 o3 o4 o5 o6 o7 _ AO.out).mono ?_); rintro e w5 ⟨rfl, hb5⟩))
   clear hback
   have hback := HBK.out (w5.alloc (.cells #[.int .i64 o1, .int .i64 o2, .int .i64 o3, .int .i64 o4, .int .i64 o5] 23)) (below_alloc hb5 _)
   have HB5 := as_ (below_alloc (below_step HB1.out (below_step HB2.out hb5)) (.cells #[.int .i64 o1, .int .i64 o2, .int .i64 o3, .int .i64 o4, .int .i64 o5] 23))
   clear hb5
   obtain ⟨F5, e⟩ := burst_end HO.out
   have AF := Aside0.mk F5
   clear HO F5
   rcases e with ⟨e1, e2⟩ | ⟨e1, e2⟩
   rotate_left
   ·go_wp2_with (first | (go_at_call 16; (with_reducible refine (withylaw07_fixed.calls k r _ AF.out).mono ?_); rintro e w4 ⟨rfl, hb4⟩; have HB4 := as_ (below_step HB5.out hb4)))
    go_ret
    exact ⟨by first | rfl | (simp; done), by repeat (first | exact HB4.out | apply pw_below_drewN | apply below_drew1)⟩
   go_wp2_with (first | (go_at_call 16; (with_reducible refine (withylaw07_fixed.calls k r _ AF.out).mono ?_); rintro e w4 ⟨rfl, hb4⟩; have HB4 := as_ (below_step HB5.out hb4)))
   go_ret
   exact ⟨by first | rfl | (simp; done), by repeat (first | exact HB4.out | apply pw_below_drewN | apply below_drew1)⟩
 have g1 : decide ((16 : Int) ≤ (a : Int)) = false := decide_eq_false (by omega)
 have g2 : decide ((12 : Int) ≤ (a : Int)) = false := decide_eq_false (by omega)
 have hhi : burst_high a = 12 := by unfold burst_high; (repeat (first | rw [if_pos (by omega)] | rw [if_neg (by omega)]))
 go_wp2
 go_loopg [13] 5 (fun kq v13 w' => ∃ j : Nat, v13 = .int .i64 (j : Int) ∧ Aside0 (j ≤ 4 ∧ kq + j = 5 ∧ (j = 0 ∨ a + j ≤ 12)) ∧ Aside0 (Below w31.heap.size w31 w' ∧ w31.heap.size < w'.heap.size) ∧ Aside0 (∀ i, i < 128 → w'.cell? ⟨w31.heap.size, i, none⟩ = some (.int .u8 (burst_byte t1 a j (burst_x a2_1 a2_2 a2_3 a2_4) i)) ∧ w'.frozen? ⟨w31.heap.size, i, none⟩ = false))
 case atStart =>
  refine ⟨0, rfl, ⟨by omega, by omega, .inl rfl⟩, ⟨HBB.out, by rw [Lib.bytesWorld_size]; omega⟩, ⟨fun i hi => ⟨?_, burst_frozen w31 t1 i (by rw [HC3.out]; exact hi)⟩⟩⟩
  rw [Lib.bytesWorld_cell w31 5 t1 i (by rw [HC3.out]; exact hi)]
  have hm : burst_byte t1 a 0 (burst_x a2_1 a2_2 a2_3 a2_4) i = bt t1 i := by unfold burst_byte; rw [if_neg (by omega)]
  rw [hm]
  have hb := bt_at t1 (i : Int)
  simp only [Int.toNat_natCast] at hb
  rw [← hb (by rw [HC3.out]; exact hi)]
  simp [List.getD_eq_getElem?_getD, List.getElem?_eq_getElem (show i < t1.data.toList.length by rw [data_length, HC3.out]; exact hi), ByteArray.getElem_eq_getElem_data]
 case round =>
  clear kb hA
  obtain ⟨j, rfl, ⟨hj1, hj2, hj3⟩, ⟨hb, hsz⟩, ⟨hcs⟩⟩ := hrel
  have HB2 := Aside0.mk hb
  have HS2 := Aside0.mk hsz
  have HC2 := Aside0.mk hcs
  clear hb hsz hcs
  by_cases hR : j < 4 ∧ a + j < 12
  ·obtain ⟨hA1, hB1⟩ := hR
   have d1 : decide ((j : Int) < 4) = true := decide_eq_true (by omega)
   have d2 : decide ((a : Int) + (j : Int) < 12) = true := decide_eq_true (by omega)
   have d3 : ((a : Int) + (j : Int) < 0) = False := eq_false (by omega)
   have d4 : ((0 : Int) ≤ (a : Int) + (j : Int)) = True := eq_true (by omega)
   have d5 : (0 ≤ (a : Int) + (j : Int)) = True := eq_true (by omega)
   have d6 : ((a : Int) + (j : Int)).toNat = a + j := by omega
   have hc := (HC2.out (a + j) (by omega)).1
   have hf := (HC2.out (a + j) (by omega)).2
   have hcx : wr.cell? ⟨w.heap.size + 1, 1 + j, none⟩ = some (.int .u8 (burst_x a2_1 a2_2 a2_3 a2_4 j)) := by
    refine (HB2.out.cell (p := ⟨w.heap.size + 1, 1 + j, none⟩) (blk_lt HP.out)).trans ((blk_cell HP.out (1 + j)).trans ?_)
    rcases (show j = 0 ∨ j = 1 ∨ j = 2 ∨ j = 3 by omega) with rfl | rfl | rfl | rfl <;> rfl
   have q0 : ((a : Int) + (j : Int) < (t1.size : Int)) = True := eq_true (by rw [HC3.out]; omega)
   have q1 : ((j : Int) < 4) = True := eq_true (by omega)
   have q2 : (a + j < t1.size) = True := eq_true (by rw [HC3.out]; omega)
   have q3 : (j < 4) = True := eq_true hA1
   have o1 : 0 ≤ (a : Int) + (j : Int) ∧ (a : Int) + (j : Int) < 1000 := by omega
   have o2 : 0 ≤ (j : Int) + 1 ∧ (j : Int) + 1 < 1000 := by omega
   have hw := burst_wrap _ o1.1 o1.2
   have hwb := burst_wrap64 _ o1.1 o1.2
   have hw2 : IntKind.i64.wrap ((j : Int) + 1) = ((j + 1 : Nat) : Int) := burst_wrap _ o2.1 o2.2
   have hw2b : wrap64 ((j : Int) + 1) = ((j + 1 : Nat) : Int) := burst_wrap64 _ o2.1 o2.2
   clear o1 o2
   go_wp2
   go_region
   go_wp2
   clear hw hwb hw2 hw2b
   go_roundg (4 - j)
   ·refine ⟨j + 1, rfl, ⟨by omega, by omega, .inr (by omega)⟩, ⟨below_drew1 (HB2.out.setCell (p := ⟨w31.heap.size, a + j, none⟩) (Nat.le_refl _) _), ?_⟩, ⟨fun i hi => ⟨?_, ?_⟩⟩⟩
    ·show _ < (World.setCell _ _ _).heap.size
     rw [World.size_setCell]
     exact HS2.out
    ·show (World.setCell _ _ _).cell? _ = _
     by_cases hij : i = a + j
     ·subst hij
      have hm : burst_byte t1 a (j + 1) (burst_x a2_1 a2_2 a2_3 a2_4) (a + j) = Go.bits .xor .u8 (burst_byte t1 a j (burst_x a2_1 a2_2 a2_3 a2_4) (a + j)) (burst_x a2_1 a2_2 a2_3 a2_4 j) := by
       unfold burst_byte
       rw [if_pos (by omega), if_neg (by omega), Nat.add_sub_cancel_left]
      rw [hm]
      exact World.cell?_setCell_same _ _ _ hc
     have hm : burst_byte t1 a (j + 1) (burst_x a2_1 a2_2 a2_3 a2_4) i = burst_byte t1 a j (burst_x a2_1 a2_2 a2_3 a2_4) i := by
      unfold burst_byte
      by_cases h3 : a ≤ i ∧ i < a + j
      rotate_left
      ·rw [if_neg h3, if_neg (by omega)]
      rw [if_pos h3, if_pos (by omega)]
     rw [hm, World.cell?_setCell_other (h := fun e => hij (by injection e with _ e2 _; exact e2.symm))]
     exact (HC2.out i hi).1
    ·show (World.setCell _ _ _).frozen? _ = _
     rw [World.frozen?_setCell]
     exact (HC2.out i hi).2
   ·omega
  have hjm : min 4 (12 - a) = j := by omega
  obtain ⟨b, hbb⟩ : ∃ b, b = strOfNums (burst_list t1 a j (burst_x a2_1 a2_2 a2_3 a2_4)) := ⟨_, rfl⟩
  have HBK : Aside0 (∀ W : World, Below wr.heap.size wr W → (convert 44 9 (.slice (some ⟨w31.heap.size, 0, none⟩) t1.size (grownCap w31 t1.size 0 5))).run Try.prog W = .ok (.string b) W) := ⟨fun W hW => by
   rw [hbb]
   refine burst_back W w31.heap.size t1.size _ _ (burst_len _ _ _ _) (fun i hi => ?_)
   rw [Nat.zero_add, burst_get _ _ _ _ i hi]
   exact (hW.cell (p := ⟨w31.heap.size, i, none⟩) HS2.out).trans (HC2.out i (by rw [← HC3.out]; exact hi)).1⟩
  have H5 := HH.out
  rw [hhi, hjm, ← hbb] at H5
  clear HH hbb hjm
  replace H5 := bM H5
  obtain ⟨⟨o1, o2, o3, o4, o5, o6, o7⟩, AO0, H5⟩ := H5
  have AO := Aside0.mk AO0
  have HO := Aside0.mk H5
  clear AO0 H5
  have hback := HBK.out wr (Below.refl _ _)
  rcases (show (¬ j < 4) ∨ (j < 4 ∧ ¬ a + j < 12) by omega) with hR2 | hR2
  ·have d1 : decide ((j : Int) < 4) = false := decide_eq_false (by omega)
   clear hR hR2 hj3
   go_upto_region 18 with (first | (go_at_call 12; (with_reducible refine (head_Open.calls k b o1 o2 o3 o4 o5 o6 o7 _ AO.out).mono ?_); rintro e w5 ⟨rfl, hb5⟩))
   clear hback
   have hback := HBK.out (w5.alloc (.cells #[.int .i64 o1, .int .i64 o2, .int .i64 o3, .int .i64 o4, .int .i64 o5] 23)) (below_alloc hb5 _)
   have HB5 := as_ (below_alloc (below_step HB1.out (below_step HB2.out hb5)) (.cells #[.int .i64 o1, .int .i64 o2, .int .i64 o3, .int .i64 o4, .int .i64 o5] 23))
   clear hb5
   obtain ⟨F5, e⟩ := burst_end HO.out
   have AF := Aside0.mk F5
   clear HO F5
   rcases e with ⟨e1, e2⟩ | ⟨e1, e2⟩
   rotate_left
   ·go_wp2_with (first | (go_at_call 16; (with_reducible refine (withylaw07_fixed.calls k r _ AF.out).mono ?_); rintro e w4 ⟨rfl, hb4⟩; have HB4 := as_ (below_step HB5.out hb4)))
    go_ret
    exact ⟨by first | rfl | (simp; done), by repeat (first | exact HB4.out | apply pw_below_drewN | apply below_drew1)⟩
   go_wp2_with (first | (go_at_call 16; (with_reducible refine (withylaw07_fixed.calls k r _ AF.out).mono ?_); rintro e w4 ⟨rfl, hb4⟩; have HB4 := as_ (below_step HB5.out hb4)))
   go_ret
   exact ⟨by first | rfl | (simp; done), by repeat (first | exact HB4.out | apply pw_below_drewN | apply below_drew1)⟩
  obtain ⟨hR2, hR3⟩ := hR2
  have d1 : decide ((j : Int) < 4) = true := decide_eq_true (by omega)
  have o1 : 0 ≤ (a : Int) + (j : Int) ∧ (a : Int) + (j : Int) < 1000 := by omega
  have d2 : decide ((a : Int) + (j : Int) < 12) = false := decide_eq_false (by omega)
  clear hR hR2 hR3 hj3
  have hw := burst_wrap _ o1.1 o1.2
  have hwb := burst_wrap64 _ o1.1 o1.2
  clear o1
  go_upto_region 18 with (first | (go_at_call 12; (with_reducible refine (head_Open.calls k b o1 o2 o3 o4 o5 o6 o7 _ AO.out).mono ?_); rintro e w5 ⟨rfl, hb5⟩))
  clear hback
  have hback := HBK.out (w5.alloc (.cells #[.int .i64 o1, .int .i64 o2, .int .i64 o3, .int .i64 o4, .int .i64 o5] 23)) (below_alloc hb5 _)
  have HB5 := as_ (below_alloc (below_step HB1.out (below_step HB2.out hb5)) (.cells #[.int .i64 o1, .int .i64 o2, .int .i64 o3, .int .i64 o4, .int .i64 o5] 23))
  clear hb5
  obtain ⟨F5, e⟩ := burst_end HO.out
  have AF := Aside0.mk F5
  clear HO F5
  rcases e with ⟨e1, e2⟩ | ⟨e1, e2⟩
  ·go_wp2_with (first | (go_at_call 16; (with_reducible refine (withylaw07_fixed.calls k r _ AF.out).mono ?_); rintro e w4 ⟨rfl, hb4⟩; have HB4 := as_ (below_step HB5.out hb4)))
   go_ret
   exact ⟨by first | rfl | (simp; done), by repeat (first | exact HB4.out | apply pw_below_drewN | apply below_drew1)⟩
  go_wp2_with (first | (go_at_call 16; (with_reducible refine (withylaw07_fixed.calls k r _ AF.out).mono ?_); rintro e w4 ⟨rfl, hb4⟩; have HB4 := as_ (below_step HB5.out hb4)))
  go_ret
  exact ⟨by first | rfl | (simp; done), by repeat (first | exact HB4.out | apply pw_below_drewN | apply below_drew1)⟩


end Go.Proofs.Ytnfnmjjdcaphjaa.P
