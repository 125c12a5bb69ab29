/- What is proved here: for functions of the Go text, a Lean function each, and that the call comes to just what it answers. Conditions: as each contract names them. Written by wip/tools/myprint.py, a driver of the print of the kit. -/
import Derived.Test.YtafebmhmcdnhkaaGreatP0
import Derived.Test.YtafebmhmcdnhkaaGreatP4
import Derived.Test.YtafebmhmcdnhkaaGreatP5
import Derived.Test.YtafebmhmcdnhkaaGreatP6
import Derived.Test.YtafebmhmcdnhkaaGreatP8
import Derived.Test.YtafebmhmcdnhkaaGreatWAbbr
namespace Go.Proofs.YtafebmhmcdnhkaaGreat.P
open Go.RowKit Go.Proofs.YtafebmhmcdnhkaaGreatW.PrintWords Go.Proofs.YtafebmhmcdnhkaaGreatW.PrintLast Go.Proofs.YtafebmhmcdnhkaaGreatW.PrintMore Go.Proofs.YtafebmhmcdnhkaaGreatW.Abbr
-- PACKED
attribute [local go_sem] max2_int min2_int max_two min_two max_three min_three max_four min_four Go.Proofs.YtafebmhmcdnhkaaGreatLaws.str_leq Go.Proofs.YtafebmhmcdnhkaaGreatLaws.str_gtr Go.Proofs.YtafebmhmcdnhkaaGreatLaws.str_geq Go.Proofs.YtafebmhmcdnhkaaGreatLaws.max2_str Go.Proofs.YtafebmhmcdnhkaaGreatLaws.min2_str   -- for this text's walks alone
set_option linter.unusedVariables false
set_option linter.unusedSimpArgs false

/-! ### slot_Unpack: function 42, by hand -/
def slot_at.f (a0 : ByteArray) (a1 : Int) : Option (Int) := if 0 ≤ (wrap64 ((a0.size : Int) - (wrap64 (2 * (wrap64 (a1 + 1)))))) then (if (wrap64 ((a0.size : Int) - (wrap64 (2 * (wrap64 (a1 + 1)))))) < (a0.size : Int) then (if 0 ≤ (wrap64 ((wrap64 ((a0.size : Int) - (wrap64 (2 * (wrap64 (a1 + 1)))))) + 1)) then (if (wrap64 ((wrap64 ((a0.size : Int) - (wrap64 (2 * (wrap64 (a1 + 1)))))) + 1)) < (a0.size : Int) then (some (wrap64 ((wrap64 (bt a0 (wrap64 ((a0.size : Int) - (wrap64 (2 * (wrap64 (a1 + 1)))))))) + (wrap64 ((wrap64 (bt a0 (wrap64 ((wrap64 ((a0.size : Int) - (wrap64 (2 * (wrap64 (a1 + 1)))))) + 1)))) * 256))))) else (none)) else (none)) else (none)) else (none)
set_option maxHeartbeats 4000000 in
theorem slot_at.calls (a0 : ByteArray) (a1 : Int) (B : Nat) (r : Int) (w : World) (hc : w.cell? ⟨B, 0, none⟩ = some (.string a0)) (h : slot_at.f a0 a1 = some r) :
  Calls Tryz.prog 80 #[.int .i64 a1, .pointer (some ⟨B, 0, none⟩)] w fun e w' => e = .returned (.int .i64 r) ∧ Drawn0 w w' := by
 unfold slot_at.f at h
 obtain ⟨ji3, hji3⟩ : ∃ j_ : Int, (wrap64 ((a0.size : Int) - (wrap64 (2 * (wrap64 (a1 + 1)))))) = j_ := ⟨_, rfl⟩
 rw [hji3] at h
 obtain ⟨ji7, hji7⟩ : ∃ j_ : Int, (wrap64 (ji3 + 1)) = j_ := ⟨_, rfl⟩
 rw [hji7] at h
 have hji3w : (IntKind.i64.wrap ((a0.size : Int) - (wrap64 (2 * (wrap64 (a1 + 1)))))) = ji3 := (i64_w _).trans hji3
 have hji7w : (IntKind.i64.wrap (ji3 + 1)) = ji7 := (i64_w _).trans hji7
 by_cases c4 : 0 ≤ ji3
 rotate_left
 ·rw [if_neg c4] at h
  cases h
 
 rw [if_pos c4] at h
 by_cases c5 : ji3 < (a0.size : Int)
 rotate_left
 ·rw [if_neg c5] at h
  cases h
 rw [if_pos c5] at h
 by_cases c8 : 0 ≤ ji7
 rotate_left
 ·rw [if_neg c8] at h
  cases h
 rw [if_pos c8] at h
 by_cases c9 : ji7 < (a0.size : Int)
 rotate_left
 ·rw [if_neg c9] at h
  cases h
 rw [if_pos c9] at h
 obtain rfl := Option.some.inj h
 clear h
 have hx6 := bt_at a0 ji3
 have hx10 := bt_at a0 ji7
 replace c4 := eq_true c4
 replace c5 := eq_true c5
 replace c8 := eq_true c8
 replace c9 := eq_true c9
 go_enter Tryz.func80, Tryz.ntmps80
 go_wp2
 repeat (go_quiet (fail); try go_wp2)
 go_ret
 exact ⟨by first | rfl | (simp; done) | (simp only [← hji3, ← hji7] <;> (first | rfl | simp)) | (simp [*]; done), by repeat (first | exact Drawn0.refl _ | apply Drawn0.step)⟩
def slot_Unpack.l0 : Nat → ByteArray → Int → Int → List ByteArray → Int → Option (List ByteArray × Int)
 | 0, _, _, _, _, _ => none
 | k + 1, x0, x1, x2, x8, x9 => if x9 < x2 then ((slot_at.f x0 x9).bind fun t141 => ((slot_at.f x0 (wrap64 (x9 + 1))).bind fun t142 => (if t141 > t142 then (some (([] : List ByteArray), 3)) else (if t142 > (x0.size : Int) then (some (([] : List ByteArray), 3)) else (if 0 ≤ t141 then (if x8.length < 8796093022208 then (slot_Unpack.l0 k x0 x1 x2 (x8 ++ [x0.extract t141.toNat t142.toNat]) (wrap64 (x9 + 1))) else (none)) else (none)))))) else (if 0 ≤ x1 then (if x1 ≤ (x0.size : Int) then ((slot_Pack.f k (x0.size : Int) (x0.extract 0 x1.toNat) x8).bind fun bt139 => (if bt139.2 = 0 then (if bt139.1.toList = x0.toList then (some (x8, 0)) else (some (([] : List ByteArray), 3))) else (some (([] : List ByteArray), 3)))) else (none)) else (none))
def slot_Unpack.f (k : Nat) (a0 : ByteArray) (a1 : Int) (a2 : Int) : Option (List ByteArray × Int) := if a1 < 0 then (some (([] : List ByteArray), 4)) else (if a2 < 0 then (some (([] : List ByteArray), 4)) else (if (a0.size : Int) > 65535 then (some (([] : List ByteArray), 4)) else (if a1 > (a0.size : Int) then (some (([] : List ByteArray), 3)) else (if a2 > (a0.size : Int) / 2 - 1 then (some (([] : List ByteArray), 3)) else (slot_Unpack.l0 k a0 a1 a2 (([] : List ByteArray)) 0)))))
theorem slot_Unpack.mono_l : ∀ k, (∀ y0 y1 y2 y3 y4, LeO (slot_Unpack.l0 k y0 y1 y2 y3 y4) (slot_Unpack.l0 (k + 1) y0 y1 y2 y3 y4))
 | 0 => fun _ _ _ _ _ r h => by simp [slot_Unpack.l0] at h
 | k + 1 => by
  have ih0 := slot_Unpack.mono_l k
  intro y0 y1 y2 y3 y4
  unfold slot_Unpack.l0
  repeat' first
  | (with_reducible exact ih0 _ _ _ _ _)
  | (with_reducible exact slot_Pack.mono _ _ _ _)
  | (with_reducible exact LeO.refl _)
  | (with_reducible exact LeO.none _)
  | (with_reducible refine LeO.ite ?_ ?_)
  | (with_reducible refine LeO.bind ?_ (fun _ => ?_))
theorem slot_Unpack.mono : ∀ a0 a1 a2 k, LeO (slot_Unpack.f k a0 a1 a2) (slot_Unpack.f (k + 1) a0 a1 a2) := by
 intro a0 a1 a2 k
 have ih0 := slot_Unpack.mono_l k
 unfold slot_Unpack.f
 repeat' first
  | (with_reducible exact ih0 _ _ _ _ _)
  | (with_reducible exact LeO.refl _)
  | (with_reducible refine LeO.ite ?_ ?_)
theorem slot_cut_run (s : ByteArray) (B n cap : Nat) (i j : Int) (h0 : 0 ≤ i) (h1 : i ≤ j) (h2 : j ≤ n) (hn : n = (bytesOf s).length) (hcap : n ≤ cap) :
  ∃ A' : Option Addr, (∀ W : World, (Instr.slice 98 (.slice (some ⟨B, 0, none⟩) n cap) (some (.int .i64 i)) (some (.int .i64 j)) (some (.int .i64 j))).run Tryz.prog W = .ok (.slice A' (j.toNat - i.toNat) (j.toNat - i.toNat)) W) ∧
   ∀ w : World, ReadsInt w .u8 (some ⟨B, 0, none⟩) n (bytesOf s) → (convert 98 9 (.slice A' (j.toNat - i.toNat) (j.toNat - i.toNat))).run Tryz.prog w = .ok (.string (s.extract i.toNat j.toNat)) w := by
 refine ⟨if j.toNat = i.toNat then some ⟨B, 0, none⟩ else (some (⟨B, 0, none⟩ : Addr)).map (·.add i.toNat), fun W => ?_, fun w hr => ?_⟩
 ·obtain ⟨i0, hi, _, hz1, _⟩ := info_parts (show (Tryz.prog.info? 5).map (fun i => (i.zero, i.size, i.bytes)) = some (some (.int .u8 0), 1, 1) by kernel_rfl)
  have hel : Tryz.prog.elem 98 = 5 := by kernel_rfl
  have hu : Tryz.prog.underlying 98 = some (.slice (Tryz.prog.elem 98)) := by rw [hel]; exact Tryz.underlying98
  rw [run_slice_lhm W 98 _ n cap hu .i64 .i64 .i64 i j j h0 h1 (Int.le_refl _) (by omega), hel]
  simp [sizeOf, typeInfo, hi, hz1, sliced, Result.andThen]
 ·have h3 := (hr.take_ j.toNat (by omega)).drop_ i.toNat (by omega) (Nat.le_refl _)
  rw [string_of_reads Tryz.underlying98 Tryz.underlying5 Tryz.underlying9 h3]
  congr 2
  refine ByteArray.ext (Array.ext' ?_)
  have e : (strOfNums (List.drop i.toNat (List.take j.toNat (bytesOf s)))).data.toList = List.drop i.toNat (List.take j.toNat s.data.toList) := by
   rw [strOfNums_data]
   unfold bytesOf
   rw [← List.map_take, ← List.map_drop, List.map_map]
   conv => rhs; rw [← List.map_id (List.drop i.toNat (List.take j.toNat s.data.toList))]
   refine List.map_congr_left (fun b _ => ?_)
   simp
  rw [e, ByteArray.data_extract, Array.toList_extract, List.extract_eq_take_drop, List.take_drop]
  congr 2
  omega
theorem slot_bytes_run (s : ByteArray) (w : World) (hs : s.size ≤ 65535) : ∃ (W2 : World) (cap : Nat), (bytesOf s).length ≤ cap ∧ (convert 9 98 (.string s)).run Tryz.prog (w.alloc (.cells #[.string s] 9)) = .ok (.slice (some ⟨w.heap.size + 1, 0, none⟩) (bytesOf s).length cap) W2 ∧
  W2.cell? ⟨w.heap.size, 0, none⟩ = some (.string s) ∧ ReadsInt W2 .u8 (some ⟨w.heap.size + 1, 0, none⟩) (bytesOf s).length (bytesOf s) ∧ Below w.heap.size w W2 ∧ W2.heap.size = w.heap.size + 2 := by
 have hsz : (w.alloc (.cells #[.string s] 9)).heap.size = w.heap.size + 1 := by simp
 refine ⟨Lib.bytesWorld (w.alloc (.cells #[.string s] 9)) 5 s, grownCap (w.alloc (.cells #[.string s] 9)) s.size 0 5, ?_, ?_, ?_, ?_, ?_, ?_⟩
 ·rw [bytesOf_length]; exact grownCap_ge _ _ _ _
 ·rw [bytesOf_length, print_bytes 9 98 5 Tryz.underlying9 Tryz.underlying98 Tryz.underlying5 s, hsz]
 ·rw [Lib.bytesWorld_old _ _ _ _ (by simp)]
  simp [World.cell?, World.alloc, -World.alloc_eq]
 ·have h := bytes_reads (w.alloc (.cells #[.string s] 9)) 5 s (by omega)
  rw [hsz] at h
  rw [bytesOf_length]
  exact h
 ·exact bytes_below ((Below.refl w.heap.size w).alloc (Nat.le_refl _) _) (by simp) 5 s
 ·rw [Lib.bytesWorld_size, hsz]
set_option maxHeartbeats 8000000 in
set_option maxRecDepth 100000 in
theorem slot_Unpack.calls (k : Nat) (a0 : ByteArray) (a1 : Int) (a2 : Int) (r1 : List ByteArray) (r2 : Int) (w : World) (h : slot_Unpack.f k a0 a1 a2 = some (r1, r2)) :
  Calls Tryz.prog 42 #[.string a0, .int .i64 a1, .int .i64 a2] w fun e w' => ∃ v0_ : Value, e = .returned (.tuple #[v0_, .int .i64 r2]) ∧ Kd.R Kd.string 9 w' w.heap.size (fun _ => True) v0_ r1 ∧ Below w.heap.size w w' := by
 unfold slot_Unpack.f at h
 by_cases c1 : a1 < 0
 ·rw [if_pos c1] at h
  simp only [Option.some.injEq, Prod.mk.injEq] at h
  obtain ⟨rfl, rfl⟩ := h
  have c1b0 := decide_eq_true c1
  clear c1
  go_enter Tryz.func42, Tryz.ntmps42
  go_wp2
  go_ret2
  exact ⟨_, rfl, Kd.R_nil _ _ _ _ _, (Below.refl _ _).alloc (Nat.le_refl _) _⟩
 rw [if_neg c1] at h
 have c1b0 := decide_eq_false c1
 by_cases c2 : a2 < 0
 ·rw [if_pos c2] at h
  simp only [Option.some.injEq, Prod.mk.injEq] at h
  obtain ⟨rfl, rfl⟩ := h
  have c2b0 := decide_eq_true c2
  clear c1 c2
  go_enter Tryz.func42, Tryz.ntmps42
  go_wp2
  go_ret2
  exact ⟨_, rfl, Kd.R_nil _ _ _ _ _, (Below.refl _ _).alloc (Nat.le_refl _) _⟩
 rw [if_neg c2] at h
 have c2b0 := decide_eq_false c2
 by_cases c3 : (a0.size : Int) > 65535
 ·rw [if_pos c3] at h
  simp only [Option.some.injEq, Prod.mk.injEq] at h
  obtain ⟨rfl, rfl⟩ := h
  have c3b0 : decide (65535 < (a0.size : Int)) = true := decide_eq_true c3
  have c3b1 : decide (65535 < a0.size) = true := decide_eq_true (by omega)
  clear c1 c2 c3
  go_enter Tryz.func42, Tryz.ntmps42
  go_wp2
  go_ret2
  exact ⟨_, rfl, Kd.R_nil _ _ _ _ _, (Below.refl _ _).alloc (Nat.le_refl _) _⟩
 rw [if_neg c3] at h
 have c3b0 : decide (65535 < (a0.size : Int)) = false := decide_eq_false c3
 have c3b1 : decide (65535 < a0.size) = false := decide_eq_false (by omega)
 have hs : (a0.size : Int) ≤ 65535 := by omega
 by_cases c4 : a1 > (a0.size : Int)
 ·rw [if_pos c4] at h
  simp only [Option.some.injEq, Prod.mk.injEq] at h
  obtain ⟨rfl, rfl⟩ := h
  have c4b0 : decide ((a0.size : Int) < a1) = true := decide_eq_true c4
  clear c1 c2 c3 c4
  go_enter Tryz.func42, Tryz.ntmps42
  go_wp2
  go_ret2
  exact ⟨_, rfl, Kd.R_nil _ _ _ _ _, (Below.refl _ _).alloc (Nat.le_refl _) _⟩
 rw [if_neg c4] at h
 have c4b0 : decide ((a0.size : Int) < a1) = false := decide_eq_false c4
 by_cases c5 : a2 > (a0.size : Int) / 2 - 1
 ·rw [if_pos c5] at h
  simp only [Option.some.injEq, Prod.mk.injEq] at h
  obtain ⟨rfl, rfl⟩ := h
  have c5b0 : decide ((a0.size : Int) / 2 - 1 < a2) = true := decide_eq_true c5
  clear c1 c2 c3 c4 c5
  go_enter Tryz.func42, Tryz.ntmps42
  go_wp2
  go_ret2
  exact ⟨_, rfl, Kd.R_nil _ _ _ _ _, (Below.refl _ _).alloc (Nat.le_refl _) _⟩
 rw [if_neg c5] at h
 have c5b0 : decide ((a0.size : Int) / 2 - 1 < a2) = false := decide_eq_false c5
 obtain ⟨W2, cap, hcap, kb, hbox, hrd, hbl, hsz⟩ := slot_bytes_run a0 w (by omega)
 have HCAP := Aside0.mk hcap
 have HBX := Aside0.mk hbox
 have HRD := Aside0.mk hrd
 have HBL := Aside0.mk hbl
 have HSZ := Aside0.mk hsz
 have HA1 := as_ (show 0 ≤ a1 by omega)
 have HA2 := as_ (show a1 ≤ (a0.size : Int) by omega)
 have HS := Aside0.mk hs
 have H' := Aside0.mk h
 clear h hcap hrd hbl hsz c1 c2 c3 c4 c5
 go_enter Tryz.func42, Tryz.ntmps42
 go_wp2
 clear kb hs
 go_loopg [10, 43] k (fun kq v10 v43 w' => ∃ (x10 : List ByteArray) (x43 : Int), v43 = .int .i64 x43 ∧ Aside0 (slot_Unpack.l0 kq a0 a1 a2 x10 x43 = some (r1, r2)) ∧ Aside0 (kq ≤ k) ∧ Aside0 (Kd.R Kd.string 9 w' W2.heap.size (fun _ => True) v10 x10) ∧ Aside0 (Below W2.heap.size W2 w'))
 case atStart => exact ⟨[], 0, rfl, H', ⟨Nat.le_refl _⟩, ⟨Kd.R_nil _ _ _ _ _⟩, ⟨Below.refl _ _⟩⟩
 case round =>
  clear H' hbox
  obtain ⟨x10, x43, rfl, HA, HK1, HO_10, HB⟩ := hrel
  cases gk with
  | zero => exact absurd HA.out (by simp [slot_Unpack.l0])
  | succ k1 =>
   have H := HA.out
   clear HA
   simp only [slot_Unpack.l0] at H
   have hbox : wr.cell? ⟨w.heap.size, 0, none⟩ = some (.string a0) := (HB.out.cell (p := ⟨w.heap.size, 0, none⟩) (by rw [HSZ.out]; show w.heap.size < _; omega)).trans HBX.out
   by_cases c13 : x43 < a2
   rotate_left
   ·rw [if_neg c13] at H
    have c13b0 : decide (x43 < a2) = false := decide_eq_false c13
    clear c13
    rw [if_pos HA1.out, if_pos HA2.out] at H
    obtain ⟨js26, hjs26⟩ : ∃ j_ : ByteArray, (a0.extract 0 (a1 : Int).toNat) = j_ := ⟨_, rfl⟩
    rw [hjs26] at H
    obtain ⟨⟨t139, t140⟩, A27, H⟩ := bN H
    (try dsimp only at H)
    have HA1' := HA1.out
    have HA2' := HA2.out
    obtain ⟨Ao30, co30, eo30⟩ := Kd.R_slice HO_10.out
    subst eo30
    have H' := Aside0.mk H
    clear H
    have HKP : Aside0 (∀ W' : World, Below wr.heap.size wr W' → W'.cell? ⟨w.heap.size, 0, none⟩ = some (.string a0)) := ⟨fun W' hb => (hb.cell (p := ⟨w.heap.size, 0, none⟩) (by have := HB.out.size; have := HSZ.out; show w.heap.size < _; omega)).trans hbox⟩
    go_upto_region 16 with fail
    go_region_held3 (fun W' : World => W'.cell? ⟨w.heap.size, 0, none⟩ = some (.string a0) ∧ Below wr.heap.size wr W') ((refine ⟨HKP.out _ ?_, ?_⟩ <;> repeat (first | exact Below.refl _ _ | assumption | apply pw_below_drewN | apply below_drew1))) (first | ((try go_simp); go_at_call 34; (with_reducible refine (slot_Pack.calls k1 (a0.size : Int) js26 _ _ x10 t139 t140 _ ?side1 ?side2 A27.out).mono ?_); (case side1 => repeat (first | exact (Kd.R_reads' HO_10.out).2.2 | (with_reducible refine Kd.C_alloc ?_ _) | (with_reducible refine Kd.C_drewN ?_ _) | (with_reducible refine Kd.C_drew ?_))); (case side2 => exact (Kd.R_reads' HO_10.out).2.1); rintro e w31 ⟨rfl, hb⟩; have HB31 : Below wr.heap.size wr w31 := below_step (by repeat (first | exact Below.refl _ _ | apply pw_below_drewN | apply below_drew1)) hb))
    have hbox31 : w31.cell? ⟨w.heap.size, 0, none⟩ = some (.string a0) := HKP.out _ HB31
    have HBF : Aside0 (Below w.heap.size w w31) := ⟨below_step (HBL.out.trans (HB.out.mono (by rw [HSZ.out]; omega))) HB31⟩
    have HOF : Aside0 (Kd.R Kd.string 9 w31 w.heap.size (fun _ => True) (.slice Ao30 x10.length co30) x10) := ⟨Kd.R_lower (Kd.R_below HO_10.out HB31) (by rw [HSZ.out]; omega)⟩
    have H := H'.out
    clear H' HB HB31 hb HKP hbox
    by_cases c28 : t140 = 0
    rotate_left
    ·rw [if_neg c28] at H
     have c28b0 : (t140 == 0) = false := beq_eq_false_iff_ne.mpr c28
     have c28b1 : (t140 != 0) = true := bne_iff_ne.mpr c28
     clear c28
     simp only [Option.some.injEq, Prod.mk.injEq] at H
     obtain ⟨rfl, rfl⟩ := H
     go_wp2
     go_ret2
     exact ⟨_, rfl, Kd.R_nil _ _ _ _ _, by repeat (first | exact HBF.out | apply pw_below_drewN | apply below_drew1)⟩
  
  
    rw [if_pos c28] at H
    have c28b0 : (t140 == 0) = true := beq_iff_eq.mpr c28
    have c28b1 : (t140 != 0) = false := bne_eq_false_iff_eq.mpr c28
    clear c28
    by_cases c29 : t139.toList = a0.toList
    rotate_left
    ·rw [if_neg c29] at H
     have c29b0 : (t139.toList == a0.toList) = false := beq_eq_false_iff_ne.mpr c29
     have c29b1 : (t139.toList != a0.toList) = true := bne_iff_ne.mpr c29
     clear c29
     simp only [Option.some.injEq, Prod.mk.injEq] at H
     obtain ⟨rfl, rfl⟩ := H
     go_wp2
     go_ret2
     exact ⟨_, rfl, Kd.R_nil _ _ _ _ _, by repeat (first | exact HBF.out | apply pw_below_drewN | apply below_drew1)⟩
    rw [if_pos c29] at H
    have c29b0 : (t139.toList == a0.toList) = true := beq_iff_eq.mpr c29
    have c29b1 : (t139.toList != a0.toList) = false := bne_eq_false_iff_eq.mpr c29
    clear c29
    simp only [Option.some.injEq, Prod.mk.injEq] at H
    obtain ⟨rfl, rfl⟩ := H
    go_wp2
    go_ret2
    exact ⟨_, rfl, by (with_reducible repeat (first | apply Kd.R_alloc | apply Kd.R_drewN | apply Kd.R_drew)); exact HOF.out, by repeat (first | exact HBF.out | apply pw_below_drewN | apply below_drew1)⟩
   rw [if_pos c13] at H
   have c13b0 : decide (x43 < a2) = true := decide_eq_true c13
   clear c13
   replace H := bM H
   obtain ⟨t141, A140, H⟩ := H
   replace H := bM H
   obtain ⟨t142, A150, H⟩ := H
   have A14 := Aside0.mk A140
   have A15 := Aside0.mk A150
   clear A140 A150
   by_cases c16 : t141 > t142
   ·rw [if_pos c16] at H
    have c16b0 : decide (t142 < t141) = true := decide_eq_true c16
    clear c16
    simp only [Option.some.injEq, Prod.mk.injEq] at H
    obtain ⟨rfl, rfl⟩ := H
    go_wp2_with fail
    refine (slot_at.calls a0 x43 _ t141 _ hbox A14.out).mono ?_
    rintro e w' ⟨rfl, ⟨nd, rfl⟩⟩
    go_wp2_with fail
    refine (slot_at.calls a0 _ _ t142 _ (by exact hbox) (by exact A15.out)).mono ?_
    rintro e w' ⟨rfl, ⟨nd', rfl⟩⟩
    go_wp2
    go_ret2
    exact ⟨_, rfl, Kd.R_nil _ _ _ _ _, by
     have HBF : Below w.heap.size w wr := HBL.out.trans (HB.out.mono (by rw [HSZ.out]; omega))
     repeat (first | exact HBF | apply pw_below_drewN | apply below_drew1)⟩
   rw [if_neg c16] at H
   have c16b0 : decide (t142 < t141) = false := decide_eq_false c16
   have HLE := as_ (show t141 ≤ t142 by omega)
   clear c16
   by_cases c17 : t142 > (a0.size : Int)
   ·rw [if_pos c17] at H
    have c17b0 : decide (((bytesOf a0).length : Int) < t142) = true := decide_eq_true (by rw [bytesOf_length]; exact c17)
    clear c17
    simp only [Option.some.injEq, Prod.mk.injEq] at H
    obtain ⟨rfl, rfl⟩ := H
    go_wp2_with fail
    refine (slot_at.calls a0 x43 _ t141 _ hbox A14.out).mono ?_
    rintro e w' ⟨rfl, ⟨nd, rfl⟩⟩
    go_wp2_with fail
    refine (slot_at.calls a0 _ _ t142 _ (by exact hbox) (by exact A15.out)).mono ?_
    rintro e w' ⟨rfl, ⟨nd', rfl⟩⟩
    go_wp2
    go_ret2
    exact ⟨_, rfl, Kd.R_nil _ _ _ _ _, by
     have HBF : Below w.heap.size w wr := HBL.out.trans (HB.out.mono (by rw [HSZ.out]; omega))
     repeat (first | exact HBF | apply pw_below_drewN | apply below_drew1)⟩
   rw [if_neg c17] at H
   have c17b0 : decide (((bytesOf a0).length : Int) < t142) = false := decide_eq_false (by rw [bytesOf_length]; exact c17)
   obtain ⟨c18, H⟩ := iN (c := 0 ≤ t141) H
   obtain ⟨c19, H⟩ := iN (c := x10.length < 8796093022208) H
   have LMc19 := Aside0.mk c19
   obtain ⟨A', hsl, hcv⟩ := slot_cut_run a0 (w.heap.size + 1) (bytesOf a0).length cap t141 t142 c18 HLE.out (by rw [bytesOf_length]; omega) rfl HCAP.out
   have HCV := Aside0.mk hcv
   clear c17 c18 c19 hcv
   obtain ⟨js21, hjs21⟩ : ∃ j_ : ByteArray, (a0.extract t141.toNat t142.toNat) = j_ := ⟨_, rfl⟩
   rw [hjs21] at H
   rw [hjs21] at HCV
   have H' := Aside0.mk H
   clear H
   have hrd : ReadsInt wr .u8 (some ⟨w.heap.size + 1, 0, none⟩) (bytesOf a0).length (bytesOf a0) := HRD.out.below HB.out
   go_wp2_with fail
   refine (slot_at.calls a0 x43 _ t141 _ hbox A14.out).mono ?_
   rintro e w' ⟨rfl, ⟨nd, rfl⟩⟩
   go_wp2_with fail
   refine (slot_at.calls a0 _ _ t142 _ (by exact hbox) (by exact A15.out)).mono ?_
   rintro e w' ⟨rfl, ⟨nd', rfl⟩⟩
   go_wp2
   rw [HCV.out _ (hrd.below (by repeat (first | exact Below.refl _ _ | apply pw_below_drewN | apply below_drew1)))]
   obtain ⟨y143, hy143⟩ : ∃ y_ : List ByteArray, y_ = (x10 ++ [js21]) := ⟨_, rfl⟩
   have Ny143 := Aside0.mk hy143
   clear hy143 HCV
   rw [← Ny143.out] at H'
   go_wp2_with ((with_reducible refine gate_builtin (b := .append) (xs := #[.tmp 62, .tmp 69]) rfl ?_); at_builtin; refine Kd.R_append Kd.string (w0 := W2) W2.heap.size rfl (.tmp 62) (.tmp 69) 23 9 (.string ⟨#[]⟩) 16 rfl Tryz.underlying23 info9 rfl (by decide) (by omega) u10 x10 js21 [.string js21] (fun _ => True) (fun _ => False) rfl rfl ?aP (fun _ hk => hk.elim) ?aF ?aO ?aB ?aS ?aL ?_; (case aP => exact rfl); (case aB => exact bA); (case aF => exact (fun _ _ => trivial)); (case aO => exact (rD HO_10)); (case aS => exact (below_size bA)); (case aL => have := LMc19.out; omega); intro v144 w23 ho hb hg hat; rw [← Ny143.out] at ho; have HO145 := as_ (ho); replace HB := as_ (hb); clear HO_10; clear ho hb hg hat)
   go_roundg k1
   case measure => have := HK1.out; omega
   case rel => exact ⟨y143, wrap64 (x43 + 1), (by first | rfl | (simp; done) | (simp [*]; done)), H', ⟨by have := HK1.out; omega⟩, ⟨by (with_reducible repeat (first | apply Kd.R_alloc | apply Kd.R_drewN | apply Kd.R_drew)); exact HO145.out⟩, ⟨bA⟩⟩
/-- A state of type 146 at block g of W; what its slices lead to came in by w0. -/
def IsS146 (w0 W : World) (g : Nat) (f0 : ByteArray) (f1 : Int) (f2 : Bool) : Prop := W.heap[g]? = some (.cells #[.string f0, .int .i64 f1, .bool f2] 146 (0, 0)) ∧ w0.heap.size ≤ g
theorem IsS146.grown {w0 W : World} {g : Nat} {f0 : ByteArray} {f1 : Int} {f2 : Bool} {W1 : World} {row : Option Nat} (h : IsS146 w0 W g f0 f1 f2) (hw : W.grownBy W1 row) (hne : some g ≠ row) : IsS146 w0 W1 g f0 f1 f2 := by
 obtain ⟨hb, hg⟩ := h
 exact ⟨blk_grown hb hw hne, hg⟩
theorem IsS146.own_neN {w0 W : World} {g : Nat} {f0 : ByteArray} {f1 : Int} {f2 : Bool} {α : Type} {d : Kd α} {e : Nat} {base : Nat} {ok : Nat → Prop} {v : Value} {xs : List α} (h : IsS146 w0 W g f0 f1 f2) (ho : Kd.N d e W base ok v xs) (ht : e ≠ 146) : some g ≠ v.ownBlock := by
 obtain ⟨hb, hg⟩ := h
 exact Kd.N_ne ho hb ht
theorem IsS146.fresh {w0 W : World} {g : Nat} {f0 : ByteArray} {f1 : Int} {f2 : Bool} (h : IsS146 w0 W g f0 f1 f2) : ∀ k, W.heap.size ≤ k → k ≠ g := by
 obtain ⟨hb, hg⟩ := h
 exact Kd.freshB hb
theorem IsS146.kept {w0 W : World} {g : Nat} {f0 : ByteArray} {f1 : Int} {f2 : Bool} {W1 : World} {S : Nat → Prop} (h : IsS146 w0 W g f0 f1 f2) (hk : Kept W W1 S) (hne : ¬ S g) : IsS146 w0 W1 g f0 f1 f2 := by
 obtain ⟨hb, hg⟩ := h
 exact ⟨blk_kept hb hk hne, hg⟩
theorem IsS146.below {w0 W : World} {g : Nat} {f0 : ByteArray} {f1 : Int} {f2 : Bool} {W1 : World} (h : IsS146 w0 W g f0 f1 f2) (hw : Below W.heap.size W W1) : IsS146 w0 W1 g f0 f1 f2 := h.grown (grown_of_below hw none) (by simp)
theorem IsS146.alloc {w0 W : World} {g : Nat} {f0 : ByteArray} {f1 : Int} {f2 : Bool} (h : IsS146 w0 W g f0 f1 f2) (o : Obj) : IsS146 w0 (W.alloc o) g f0 f1 f2 := h.below (below_alloc (Below.refl _ _) o)
theorem IsS146.drewN {w0 W : World} {g : Nat} {f0 : ByteArray} {f1 : Int} {f2 : Bool} (h : IsS146 w0 W g f0 f1 f2) (m : Nat) : IsS146 w0 (W.drewN m) g f0 f1 f2 := h
theorem IsS146.drew {w0 W : World} {g : Nat} {f0 : ByteArray} {f1 : Int} {f2 : Bool} (h : IsS146 w0 W g f0 f1 f2) : IsS146 w0 W.drew g f0 f1 f2 := h
theorem IsS146.at_ {w0 W : World} {g : Nat} {f0 : ByteArray} {f1 : Int} {f2 : Bool} {w' : World} {m : Nat} (hq : W.drewN m = w') (h : IsS146 w0 W g f0 f1 f2) : IsS146 w0 w' g f0 f1 f2 := by subst hq; exact IsS146.drewN h m
theorem IsS146.apart {w0 W : World} {g : Nat} {f0 : ByteArray} {f1 : Int} {f2 : Bool} {α : Type} {d : Kd α} {e : Nat} {base : Nat} {ok : Nat → Prop} {v : Value} {xs : List α} (h : IsS146 w0 W g f0 f1 f2) (ho : d.R e W base ok v xs) (ht : ∀ q, q ∈ e :: d.E → q ≠ 146) : d.R e W base (fun k => ok k ∧ k ≠ g) v xs := by
 obtain ⟨hb, hg⟩ := h
 exact Kd.R_types ho hb ht
theorem IsS146.own_ne {w0 W : World} {g : Nat} {f0 : ByteArray} {f1 : Int} {f2 : Bool} {α : Type} {d : Kd α} {e : Nat} {base : Nat} {ok : Nat → Prop} {v : Value} {xs : List α} (h : IsS146 w0 W g f0 f1 f2) (ho : d.R e W base ok v xs) (ht : e ≠ 146) : some g ≠ v.ownBlock := by
 obtain ⟨hb, hg⟩ := h
 exact Kd.R_ne ho hb ht
theorem IsS146.apartQ {w0 W : World} {g : Nat} {f0 : ByteArray} {f1 : Int} {f2 : Bool} {α : Type} {d : Kd α} {e : Nat} {base : Nat} {ok : Nat → Prop} {v : Value} {xs : List α} (h : IsS146 w0 W g f0 f1 f2) (ho : d.Q e W base ok v xs) (ht : ∀ q, q ∈ e :: d.E → q ≠ 146) : d.Q e W base (fun k => ok k ∧ k ≠ g) v xs := by
 obtain ⟨hb, hg⟩ := h
 exact Kd.Q_types ho hb ht
theorem IsS146.own_neQ {w0 W : World} {g : Nat} {f0 : ByteArray} {f1 : Int} {f2 : Bool} {α : Type} {d : Kd α} {e : Nat} {base : Nat} {ok : Nat → Prop} {v : Value} {xs : List α} (h : IsS146 w0 W g f0 f1 f2) (ho : d.Q e W base ok v xs) (ht : e ≠ 146) : some g ≠ v.ownBlock := by
 obtain ⟨hb, hg⟩ := h
 exact Kd.Q_ne ho hb ht
theorem IsS146.apartS {w0 W : World} {g : Nat} {f0 : ByteArray} {f1 : Int} {f2 : Bool} {α : Type} {d : Kd α} {e : Nat} {base : Nat} {ok : Nat → Prop} {v : Value} {xs : List α} (h : IsS146 w0 W g f0 f1 f2) (ho : d.S e W base ok v xs) (ht : ∀ q, q ∈ e :: d.E → q ≠ 146) : d.S e W base (fun k => ok k ∧ k ≠ g) v xs := by
 obtain ⟨hb, hg⟩ := h
 exact Kd.S_types ho hb ht
theorem IsS146.own_neS {w0 W : World} {g : Nat} {f0 : ByteArray} {f1 : Int} {f2 : Bool} {α : Type} {d : Kd α} {e : Nat} {base : Nat} {ok : Nat → Prop} {v : Value} {xs : List α} (h : IsS146 w0 W g f0 f1 f2) (ho : d.S e W base ok v xs) (ht : e ≠ 146) : some g ≠ v.ownBlock := by
 obtain ⟨hb, hg⟩ := h
 exact Kd.S_ne ho hb ht
theorem IsS146.lt {w0 W : World} {g : Nat} {f0 : ByteArray} {f1 : Int} {f2 : Bool} (h : IsS146 w0 W g f0 f1 f2) : g < W.heap.size := by
 obtain ⟨hb, hg⟩ := h
 exact blk_lt hb
theorem IsS146.ge {w0 W : World} {g : Nat} {f0 : ByteArray} {f1 : Int} {f2 : Bool} (h : IsS146 w0 W g f0 f1 f2) : w0.heap.size ≤ g := by
 obtain ⟨hb, hg⟩ := h
 exact hg
theorem IsS146.ne_blk {w0 W : World} {g : Nat} {f0 : ByteArray} {f1 : Int} {f2 : Bool} {a : Nat} {cs : Array Value} {t : TypeId} {fr : Nat × Nat} (h : IsS146 w0 W g f0 f1 f2) (hb2 : W.heap[a]? = some (.cells cs t fr)) (ht : t ≠ 146) : g ≠ a := by
 obtain ⟨hb, hg⟩ := h
 rintro rfl
 rw [hb] at hb2
 injection hb2 with hb2
 injection hb2 with _ ht2
 exact ht ht2.symm
theorem IsS146.far {w0 W : World} {g : Nat} {f0 : ByteArray} {f1 : Int} {f2 : Bool} {p : Addr} (h : IsS146 w0 W g f0 f1 f2) (hne : g ≠ p.block) (u : Value) : IsS146 w0 (W.setCell p u) g f0 f1 f2 := by
 obtain ⟨hb, hg⟩ := h
 exact ⟨blk_far hb hne u, hg⟩
theorem cellS146_0 {W : World} {g : Nat} {f0 : ByteArray} {f1 : Int} {f2 : Bool} (h : W.heap[g]? = some (.cells #[.string f0, .int .i64 f1, .bool f2] 146 (0, 0))) : W.cell? ⟨g, 0, none⟩ = some (.string f0) := (blk_cell h 0).trans rfl
theorem IsS146.set_0 {w0 W : World} {g : Nat} {f0 : ByteArray} {f1 : Int} {f2 : Bool} (h : IsS146 w0 W g f0 f1 f2) (x : ByteArray) : IsS146 w0 (W.setCell ⟨g, 0, none⟩ (.string x)) g x f1 f2 := by
 obtain ⟨hb, hg⟩ := h
 exact ⟨by simpa using blk_set hb 0 (.string x), hg⟩
theorem cellS146_1 {W : World} {g : Nat} {f0 : ByteArray} {f1 : Int} {f2 : Bool} (h : W.heap[g]? = some (.cells #[.string f0, .int .i64 f1, .bool f2] 146 (0, 0))) : W.cell? ⟨g, 1, none⟩ = some (.int .i64 f1) := (blk_cell h 1).trans rfl
theorem IsS146.set_1 {w0 W : World} {g : Nat} {f0 : ByteArray} {f1 : Int} {f2 : Bool} (h : IsS146 w0 W g f0 f1 f2) (x : Int) : IsS146 w0 (W.setCell ⟨g, 1, none⟩ (.int .i64 x)) g f0 x f2 := by
 obtain ⟨hb, hg⟩ := h
 exact ⟨by simpa using blk_set hb 1 (.int .i64 x), hg⟩
theorem cellS146_2 {W : World} {g : Nat} {f0 : ByteArray} {f1 : Int} {f2 : Bool} (h : W.heap[g]? = some (.cells #[.string f0, .int .i64 f1, .bool f2] 146 (0, 0))) : W.cell? ⟨g, 2, none⟩ = some (.bool f2) := (blk_cell h 2).trans rfl
theorem IsS146.set_2 {w0 W : World} {g : Nat} {f0 : ByteArray} {f1 : Int} {f2 : Bool} (h : IsS146 w0 W g f0 f1 f2) (x : Bool) : IsS146 w0 (W.setCell ⟨g, 2, none⟩ (.bool x)) g f0 f1 x := by
 obtain ⟨hb, hg⟩ := h
 exact ⟨by simpa using blk_set hb 2 (.bool x), hg⟩
theorem IsS146.new (w0 W : World) (f0 : ByteArray) (f1 : Int) (f2 : Bool) (hB : Below w0.heap.size w0 W) : IsS146 w0 (W.alloc (.cells #[.string f0, .int .i64 f1, .bool f2] 146)) W.heap.size f0 f1 f2 := ⟨by simpa using heap_alloc_new W _, hB.size⟩

/-! ### cell_reader_four: function 107 -/
def cell_reader_four.f (k : Nat) (s0_0 : ByteArray) (s0_1 : Int) (s0_2 : Bool) : Option (Int × ByteArray × Int × Bool) := (word_Read.f k s0_0 s0_1).bind fun bt271 => (if bt271.2 = 0 then (if bt271.1 ≥ 4096 then (some (0, s0_0, s0_1, true)) else (some (wrap64 (bt271.1), s0_0, wrap64 (s0_1 + 4), s0_2))) else (some (0, s0_0, s0_1, true)))
theorem cell_reader_four.mono : ∀ a0 a1 a2 k, LeO (cell_reader_four.f k a0 a1 a2) (cell_reader_four.f (k + 1) a0 a1 a2) := by
 intro a0 a1 a2 k
 unfold cell_reader_four.f
 repeat' first
   | (with_reducible exact word_Read.mono _ _ _)
   | (with_reducible exact LeO.refl _)
   | (with_reducible exact LeO.none _)
   | (with_reducible refine LeO.ite ?_ ?_)
   | (with_reducible refine LeO.bind ?_ (fun _ => ?_))
   | exact word_Read.mono _ _ _
   | exact LeO.none _
   | refine LeO.ite ?_ ?_
   | refine LeO.bind ?_ (fun _ => ?_)
set_option maxHeartbeats 8000000 in
set_option maxRecDepth 100000 in
theorem cell_reader_four.calls (k : Nat) (g : Nat) (s0_0 : ByteArray) (s0_1 : Int) (s0_2 : Bool) (r1 : Int) (r2 : ByteArray) (r3 : Int) (r4 : Bool) (w0 w : World) (hI : IsS146 w0 w g s0_0 s0_1 s0_2) (hB : Below w0.heap.size w0 w) (h : cell_reader_four.f k s0_0 s0_1 s0_2 = some (r1, r2, r3, r4)) :
  Calls Tryz.prog 107 #[.pointer (some ⟨g, 0, none⟩)] w fun e w' => e = .returned (.int .i64 r1) ∧ IsS146 w0 w' g r2 r3 r4 ∧ Below w0.heap.size w0 w' ∧ KeepBut w w' g none := by
 have HI0 := Aside0.mk hI
 have HK := as_ (KeepBut.refl w g none)
 have HL := Aside0.mk hB.size
 clear hI
 have HW0 := Aside0.mk hB.size
 have HB := Aside0.mk hB
 clear hB
 have H : ((word_Read.f k s0_0 s0_1).bind fun bt271 => (if bt271.2 = 0 then (if bt271.1 ≥ 4096 then (some (0, s0_0, s0_1, true)) else (some (wrap64 (bt271.1), s0_0, wrap64 (s0_1 + 4), s0_2))) else (some (0, s0_0, s0_1, true)))) = some (r1, r2, r3, r4) := h
 clear h
 obtain ⟨⟨t271, t272⟩, A2, H⟩ := bN H
 (try dsimp only at H)
 by_cases c3 : t272 = 0
 rotate_left
 ·rw [if_neg c3] at H
  have c3b0 : (t272 == 0) = false := beq_eq_false_iff_ne.mpr c3
  have c3b1 : (t272 != 0) = true := bne_iff_ne.mpr c3
  simp only [Option.some.injEq, Prod.mk.injEq] at H
  obtain ⟨rfl, rfl, rfl, rfl⟩ := H
  obtain ⟨HGz7, hgz7⟩ := HI0.out
  have hcz7_0 := cellS146_0 HGz7
  have hcz7_1 := cellS146_1 HGz7
  have hcz7_2 := cellS146_2 HGz7
  have hfz7_0 := blk_frozen HGz7 0
  have hfz7_1 := blk_frozen HGz7 1
  have hfz7_2 := blk_frozen HGz7 2
  clear HGz7 hgz7
  go_enter Tryz.func107, Tryz.ntmps107
  go_wp2_with (first | (go_at_call 78; (with_reducible refine (word_Read.calls k s0_0 s0_1 t271 t272 _ A2.out).mono ?_); rintro e w' ⟨rfl, ⟨nd, rfl⟩⟩; (try first | exact ⟨rfl, _, World.drewN_drewN _ _ _⟩ | exact ⟨rfl, _, Eq.trans (World.drewN_drewN _ _ _) (congrArg (World.drewN _) (Nat.add_assoc _ _ _))⟩)))
  repeat (go_quiet (first | (go_at_call 78; (with_reducible refine (word_Read.calls k s0_0 s0_1 t271 t272 _ A2.out).mono ?_); rintro e w' ⟨rfl, ⟨nd, rfl⟩⟩; (try first | exact ⟨rfl, _, World.drewN_drewN _ _ _⟩ | exact ⟨rfl, _, Eq.trans (World.drewN_drewN _ _ _) (congrArg (World.drewN _) (Nat.add_assoc _ _ _))⟩))); try go_wp2_with (first | (go_at_call 78; (with_reducible refine (word_Read.calls k s0_0 s0_1 t271 t272 _ A2.out).mono ?_); rintro e w' ⟨rfl, ⟨nd, rfl⟩⟩; (try first | exact ⟨rfl, _, World.drewN_drewN _ _ _⟩ | exact ⟨rfl, _, Eq.trans (World.drewN_drewN _ _ _) (congrArg (World.drewN _) (Nat.add_assoc _ _ _))⟩))))
  go_ret
  exact ⟨eW, by repeat (first | (with_reducible first | exact HI0.out | apply IsS146.alloc | apply IsS146.drewN | apply IsS146.drew | apply IsS146.set_0 | apply IsS146.set_1 | apply IsS146.set_2) | exact HI0.out), by repeat (first | (with_reducible first | exact HB.out | apply below_alloc | apply pw_below_drewN | apply below_drew1 | refine below_set ?_ (IsS146.ge HI0.out)) | exact HB.out), by repeat (first | (with_reducible first | exact HK.out | apply KeepBut.set_ | apply keep_drewN | apply keep_drew | apply keep_alloc) | exact HK.out)⟩
 
 rw [if_pos c3] at H
 have c3b0 : (t272 == 0) = true := beq_iff_eq.mpr c3
 have c3b1 : (t272 != 0) = false := bne_eq_false_iff_eq.mpr c3
 clear c3
 by_cases c4 : t271 ≥ 4096
 rotate_left
 ·rw [if_neg c4] at H
  have c4b0 : decide (4096 ≤ t271) = false := decide_eq_false c4
  clear c4
  simp only [Option.some.injEq, Prod.mk.injEq] at H
  obtain ⟨rfl, rfl, rfl, rfl⟩ := H
  obtain ⟨HGz6, hgz6⟩ := HI0.out
  have hcz6_0 := cellS146_0 HGz6
  have hcz6_1 := cellS146_1 HGz6
  have hcz6_2 := cellS146_2 HGz6
  have hfz6_0 := blk_frozen HGz6 0
  have hfz6_1 := blk_frozen HGz6 1
  have hfz6_2 := blk_frozen HGz6 2
  clear HGz6 hgz6
  go_enter Tryz.func107, Tryz.ntmps107
  go_wp2_with (first | (go_at_call 78; (with_reducible refine (word_Read.calls k s0_0 s0_1 t271 t272 _ A2.out).mono ?_); rintro e w' ⟨rfl, ⟨nd, rfl⟩⟩; (try first | exact ⟨rfl, _, World.drewN_drewN _ _ _⟩ | exact ⟨rfl, _, Eq.trans (World.drewN_drewN _ _ _) (congrArg (World.drewN _) (Nat.add_assoc _ _ _))⟩)))
  repeat (go_quiet (first | (go_at_call 78; (with_reducible refine (word_Read.calls k s0_0 s0_1 t271 t272 _ A2.out).mono ?_); rintro e w' ⟨rfl, ⟨nd, rfl⟩⟩; (try first | exact ⟨rfl, _, World.drewN_drewN _ _ _⟩ | exact ⟨rfl, _, Eq.trans (World.drewN_drewN _ _ _) (congrArg (World.drewN _) (Nat.add_assoc _ _ _))⟩))); try go_wp2_with (first | (go_at_call 78; (with_reducible refine (word_Read.calls k s0_0 s0_1 t271 t272 _ A2.out).mono ?_); rintro e w' ⟨rfl, ⟨nd, rfl⟩⟩; (try first | exact ⟨rfl, _, World.drewN_drewN _ _ _⟩ | exact ⟨rfl, _, Eq.trans (World.drewN_drewN _ _ _) (congrArg (World.drewN _) (Nat.add_assoc _ _ _))⟩))))
  go_ret
  exact ⟨eW, by repeat (first | (with_reducible first | exact HI0.out | apply IsS146.alloc | apply IsS146.drewN | apply IsS146.drew | apply IsS146.set_0 | apply IsS146.set_1 | apply IsS146.set_2) | exact HI0.out), by repeat (first | (with_reducible first | exact HB.out | apply below_alloc | apply pw_below_drewN | apply below_drew1 | refine below_set ?_ (IsS146.ge HI0.out)) | exact HB.out), by repeat (first | (with_reducible first | exact HK.out | apply KeepBut.set_ | apply keep_drewN | apply keep_drew | apply keep_alloc) | exact HK.out)⟩
 rw [if_pos c4] at H
 have c4b0 : decide (4096 ≤ t271) = true := decide_eq_true c4
 clear c4
 simp only [Option.some.injEq, Prod.mk.injEq] at H
 obtain ⟨rfl, rfl, rfl, rfl⟩ := H
 obtain ⟨HGz5, hgz5⟩ := HI0.out
 have hcz5_0 := cellS146_0 HGz5
 have hcz5_1 := cellS146_1 HGz5
 have hcz5_2 := cellS146_2 HGz5
 have hfz5_0 := blk_frozen HGz5 0
 have hfz5_1 := blk_frozen HGz5 1
 have hfz5_2 := blk_frozen HGz5 2
 clear HGz5 hgz5
 go_enter Tryz.func107, Tryz.ntmps107
 go_wp2_with (first | (go_at_call 78; (with_reducible refine (word_Read.calls k s0_0 s0_1 t271 t272 _ A2.out).mono ?_); rintro e w' ⟨rfl, ⟨nd, rfl⟩⟩; (try first | exact ⟨rfl, _, World.drewN_drewN _ _ _⟩ | exact ⟨rfl, _, Eq.trans (World.drewN_drewN _ _ _) (congrArg (World.drewN _) (Nat.add_assoc _ _ _))⟩)))
 repeat (go_quiet (first | (go_at_call 78; (with_reducible refine (word_Read.calls k s0_0 s0_1 t271 t272 _ A2.out).mono ?_); rintro e w' ⟨rfl, ⟨nd, rfl⟩⟩; (try first | exact ⟨rfl, _, World.drewN_drewN _ _ _⟩ | exact ⟨rfl, _, Eq.trans (World.drewN_drewN _ _ _) (congrArg (World.drewN _) (Nat.add_assoc _ _ _))⟩))); try go_wp2_with (first | (go_at_call 78; (with_reducible refine (word_Read.calls k s0_0 s0_1 t271 t272 _ A2.out).mono ?_); rintro e w' ⟨rfl, ⟨nd, rfl⟩⟩; (try first | exact ⟨rfl, _, World.drewN_drewN _ _ _⟩ | exact ⟨rfl, _, Eq.trans (World.drewN_drewN _ _ _) (congrArg (World.drewN _) (Nat.add_assoc _ _ _))⟩))))
 go_ret
 exact ⟨eW, by repeat (first | (with_reducible first | exact HI0.out | apply IsS146.alloc | apply IsS146.drewN | apply IsS146.drew | apply IsS146.set_0 | apply IsS146.set_1 | apply IsS146.set_2) | exact HI0.out), by repeat (first | (with_reducible first | exact HB.out | apply below_alloc | apply pw_below_drewN | apply below_drew1 | refine below_set ?_ (IsS146.ge HI0.out)) | exact HB.out), by repeat (first | (with_reducible first | exact HK.out | apply KeepBut.set_ | apply keep_drewN | apply keep_drew | apply keep_alloc) | exact HK.out)⟩
/-! ### cell_reader_take: function 108 -/
def cell_reader_take.f (s0_0 : ByteArray) (s0_1 : Int) (s0_2 : Bool) (a1 : Int) : Option (ByteArray × ByteArray × Int × Bool) := if s0_2 = true then (some ((⟨#[]⟩ : ByteArray), s0_0, s0_1, true)) else (if a1 > (wrap64 ((s0_0.size : Int) - s0_1)) then (some ((⟨#[]⟩ : ByteArray), s0_0, s0_1, true)) else (if 0 ≤ (wrap64 ((wrap64 (s0_1 + a1)) - a1)) then (if (wrap64 ((wrap64 (s0_1 + a1)) - a1)) ≤ (wrap64 (s0_1 + a1)) then (if (wrap64 (s0_1 + a1)) ≤ (s0_0.size : Int) then (some (s0_0.extract ((wrap64 ((wrap64 (s0_1 + a1)) - a1)) : Int).toNat ((wrap64 (s0_1 + a1)) : Int).toNat, s0_0, wrap64 (s0_1 + a1), s0_2)) else (none)) else (none)) else (none)))
set_option maxHeartbeats 8000000 in
set_option maxRecDepth 100000 in
theorem cell_reader_take.calls (g : Nat) (s0_0 : ByteArray) (s0_1 : Int) (s0_2 : Bool) (a1 : Int) (r1 : ByteArray) (r2 : ByteArray) (r3 : Int) (r4 : Bool) (w0 w : World) (hI : IsS146 w0 w g s0_0 s0_1 s0_2) (hB : Below w0.heap.size w0 w) (h : cell_reader_take.f s0_0 s0_1 s0_2 a1 = some (r1, r2, r3, r4)) :
  Calls Tryz.prog 108 #[.pointer (some ⟨g, 0, none⟩), .int .i64 a1] w fun e w' => e = .returned (.string r1) ∧ IsS146 w0 w' g r2 r3 r4 ∧ Below w0.heap.size w0 w' ∧ KeepBut w w' g none := by
 have HI0 := Aside0.mk hI
 have HK := as_ (KeepBut.refl w g none)
 have HL := Aside0.mk hB.size
 clear hI
 have HW0 := Aside0.mk hB.size
 have HB := Aside0.mk hB
 clear hB
 have H : (if s0_2 = true then (some ((⟨#[]⟩ : ByteArray), s0_0, s0_1, true)) else (if a1 > (wrap64 ((s0_0.size : Int) - s0_1)) then (some ((⟨#[]⟩ : ByteArray), s0_0, s0_1, true)) else (if 0 ≤ (wrap64 ((wrap64 (s0_1 + a1)) - a1)) then (if (wrap64 ((wrap64 (s0_1 + a1)) - a1)) ≤ (wrap64 (s0_1 + a1)) then (if (wrap64 (s0_1 + a1)) ≤ (s0_0.size : Int) then (some (s0_0.extract ((wrap64 ((wrap64 (s0_1 + a1)) - a1)) : Int).toNat ((wrap64 (s0_1 + a1)) : Int).toNat, s0_0, wrap64 (s0_1 + a1), s0_2)) else (none)) else (none)) else (none)))) = some (r1, r2, r3, r4) := h
 clear h
 by_cases c3 : s0_2 = true
 ·subst c3
  have H1 : (some ((⟨#[]⟩ : ByteArray), s0_0, s0_1, true)) = some (r1, r2, r3, r4) := by rw [if_pos rfl] at H; exact H
  clear H
  have H := H1
  clear H1
  simp only [Option.some.injEq, Prod.mk.injEq] at H
  obtain ⟨rfl, rfl, rfl, rfl⟩ := H
  obtain ⟨HGz4, hgz4⟩ := HI0.out
  have hcz4_0 := cellS146_0 HGz4
  have hcz4_1 := cellS146_1 HGz4
  have hcz4_2 := cellS146_2 HGz4
  have hfz4_0 := blk_frozen HGz4 0
  have hfz4_1 := blk_frozen HGz4 1
  have hfz4_2 := blk_frozen HGz4 2
  clear HGz4 hgz4
  go_enter Tryz.func108, Tryz.ntmps108
  go_wp2
  repeat (go_quiet (fail); try go_wp2)
  go_ret
  exact ⟨eW, by repeat (first | (with_reducible first | exact HI0.out | apply IsS146.alloc | apply IsS146.drewN | apply IsS146.drew | apply IsS146.set_0 | apply IsS146.set_1 | apply IsS146.set_2) | exact HI0.out), by repeat (first | (with_reducible first | exact HB.out | apply below_alloc | apply pw_below_drewN | apply below_drew1 | refine below_set ?_ (IsS146.ge HI0.out)) | exact HB.out), by repeat (first | (with_reducible first | exact HK.out | apply KeepBut.set_ | apply keep_drewN | apply keep_drew | apply keep_alloc) | exact HK.out)⟩
 replace c3 := Bool.eq_false_iff.mpr c3
 subst c3
 have H1 : (if a1 > (wrap64 ((s0_0.size : Int) - s0_1)) then (some ((⟨#[]⟩ : ByteArray), s0_0, s0_1, true)) else (if 0 ≤ (wrap64 ((wrap64 (s0_1 + a1)) - a1)) then (if (wrap64 ((wrap64 (s0_1 + a1)) - a1)) ≤ (wrap64 (s0_1 + a1)) then (if (wrap64 (s0_1 + a1)) ≤ (s0_0.size : Int) then (some (s0_0.extract ((wrap64 ((wrap64 (s0_1 + a1)) - a1)) : Int).toNat ((wrap64 (s0_1 + a1)) : Int).toNat, s0_0, wrap64 (s0_1 + a1), false)) else (none)) else (none)) else (none))) = some (r1, r2, r3, r4) := by rw [if_neg (show ¬ (false = true) by decide)] at H; exact H
 clear H
 have H := H1
 clear H1
 by_cases c5 : a1 > (wrap64 ((s0_0.size : Int) - s0_1))
 ·rw [if_pos c5] at H
  have c5b0 : decide ((wrap64 ((s0_0.size : Int) - s0_1)) < a1) = true := decide_eq_true c5
  clear c5
  simp only [Option.some.injEq, Prod.mk.injEq] at H
  obtain ⟨rfl, rfl, rfl, rfl⟩ := H
  obtain ⟨HGz6, hgz6⟩ := HI0.out
  have hcz6_0 := cellS146_0 HGz6
  have hcz6_1 := cellS146_1 HGz6
  have hcz6_2 := cellS146_2 HGz6
  have hfz6_0 := blk_frozen HGz6 0
  have hfz6_1 := blk_frozen HGz6 1
  have hfz6_2 := blk_frozen HGz6 2
  clear HGz6 hgz6
  go_enter Tryz.func108, Tryz.ntmps108
  go_wp2
  repeat (go_quiet (fail); try go_wp2)
  go_ret
  exact ⟨eW, by repeat (first | (with_reducible first | exact HI0.out | apply IsS146.alloc | apply IsS146.drewN | apply IsS146.drew | apply IsS146.set_0 | apply IsS146.set_1 | apply IsS146.set_2) | exact HI0.out), by repeat (first | (with_reducible first | exact HB.out | apply below_alloc | apply pw_below_drewN | apply below_drew1 | refine below_set ?_ (IsS146.ge HI0.out)) | exact HB.out), by repeat (first | (with_reducible first | exact HK.out | apply KeepBut.set_ | apply keep_drewN | apply keep_drew | apply keep_alloc) | exact HK.out)⟩
 rw [if_neg c5] at H
 have c5b0 : decide ((wrap64 ((s0_0.size : Int) - s0_1)) < a1) = false := decide_eq_false c5
 clear c5
 obtain ⟨ji7, hji7⟩ : ∃ j_ : Int, (wrap64 ((wrap64 (s0_1 + a1)) - a1)) = j_ := ⟨_, rfl⟩
 replace H : (if 0 ≤ (ji7) then (if (ji7) ≤ (wrap64 (s0_1 + a1)) then (if (wrap64 (s0_1 + a1)) ≤ (s0_0.size : Int) then (some (s0_0.extract ((ji7) : Int).toNat ((wrap64 (s0_1 + a1)) : Int).toNat, s0_0, wrap64 (s0_1 + a1), false)) else (none)) else (none)) else (none)) = some (r1, r2, r3, r4) := by first | (rw [hji7] at H; exact H) | (simp only [hji7] at H ⊢; exact H)
 have hji7w : (IntKind.i64.wrap ((wrap64 (s0_1 + a1)) - a1)) = ji7 := (i64_w _).trans hji7
 obtain ⟨c8, H⟩ := iN (c := 0 ≤ (ji7)) H
 have c8b0 := eq_true c8
 have c8b1 := decide_eq_true c8
 clear c8
 obtain ⟨c9, H⟩ := iN (c := (ji7) ≤ (wrap64 (s0_1 + a1))) H
 have c9b0 := eq_true c9
 have c9b1 := decide_eq_true c9
 obtain ⟨c10, H⟩ := iN (c := (wrap64 (s0_1 + a1)) ≤ (s0_0.size : Int)) H
 have c10b0 := eq_true c10
 have c10b1 : decide ((wrap64 (s0_1 + a1)) ≤ (s0_0.size : Int)) = true := decide_eq_true c10
 obtain ⟨js11, hjs11⟩ : ∃ j_ : ByteArray, (s0_0.extract ((ji7) : Int).toNat ((wrap64 (s0_1 + a1)) : Int).toNat) = j_ := ⟨_, rfl⟩
 replace H : (some (js11, s0_0, wrap64 (s0_1 + a1), false)) = some (r1, r2, r3, r4) := by first | (rw [hjs11] at H; exact H) | (simp only [hjs11] at H ⊢; exact H)
 simp only [Option.some.injEq, Prod.mk.injEq] at H
 obtain ⟨rfl, rfl, rfl, rfl⟩ := H
 obtain ⟨HGz12, hgz12⟩ := HI0.out
 have hcz12_0 := cellS146_0 HGz12
 have hcz12_1 := cellS146_1 HGz12
 have hcz12_2 := cellS146_2 HGz12
 have hfz12_0 := blk_frozen HGz12 0
 have hfz12_1 := blk_frozen HGz12 1
 have hfz12_2 := blk_frozen HGz12 2
 clear HGz12 hgz12
 go_enter Tryz.func108, Tryz.ntmps108
 go_wp2
 repeat (go_quiet (fail); try go_wp2)
 go_ret
 exact ⟨by first | rfl | (simp [errW_none, errW_some] <;> rfl) | (simp only [← hji7, ← hjs11]; first | rfl | (simp [errW_none, errW_some] <;> rfl)) | (simp [*, errW_none, errW_some] <;> rfl), by repeat (first | (with_reducible first | exact HI0.out | apply IsS146.alloc | apply IsS146.drewN | apply IsS146.drew | apply IsS146.set_0 | apply IsS146.set_1 | apply IsS146.set_2) | exact HI0.out), by repeat (first | (with_reducible first | exact HB.out | apply below_alloc | apply pw_below_drewN | apply below_drew1 | refine below_set ?_ (IsS146.ge HI0.out)) | exact HB.out), by repeat (first | (with_reducible first | exact HK.out | apply KeepBut.set_ | apply keep_drewN | apply keep_drew | apply keep_alloc) | exact HK.out)⟩
/-! ### cell_reader_number: function 109, by hand -/
def cell_reader_number.f (k : Nat) (s0_0 : ByteArray) (s0_1 : Int) (s0_2 : Bool) : Option (Int × ByteArray × Int × Bool) := (word_Get.f k s0_0 s0_1).bind fun bt => (if bt.2.2 = 0 then (if bt.1 > 4096 then (some (0, s0_0, s0_1, true)) else (some (wrap64 (bt.1), s0_0, bt.2.1, s0_2))) else (some (0, s0_0, s0_1, true)))
theorem cell_reader_number.mono : ∀ a0 a1 a2 k, LeO (cell_reader_number.f k a0 a1 a2) (cell_reader_number.f (k + 1) a0 a1 a2) := by
 intro a0 a1 a2 k
 unfold cell_reader_number.f
 exact LeO.bind (word_Get.mono _ _ _) (fun _ => LeO.refl _)
set_option maxHeartbeats 8000000 in
set_option maxRecDepth 100000 in
theorem cell_reader_number.calls (k : Nat) (g : Nat) (s0_0 : ByteArray) (s0_1 : Int) (s0_2 : Bool) (r1 : Int) (r2 : ByteArray) (r3 : Int) (r4 : Bool) (w0 w : World) (hI : IsS146 w0 w g s0_0 s0_1 s0_2) (hB : Below w0.heap.size w0 w) (h : cell_reader_number.f k s0_0 s0_1 s0_2 = some (r1, r2, r3, r4)) :
  Calls Tryz.prog 109 #[.pointer (some ⟨g, 0, none⟩)] w fun e w' => e = .returned (.int .i64 r1) ∧ IsS146 w0 w' g r2 r3 r4 ∧ Below w0.heap.size w0 w' ∧ KeepBut w w' g none := by
 have H : ((word_Get.f k s0_0 s0_1).bind fun bt => (if bt.2.2 = 0 then (if bt.1 > 4096 then (some (0, s0_0, s0_1, true)) else (some (wrap64 (bt.1), s0_0, bt.2.1, s0_2))) else (some (0, s0_0, s0_1, true)))) = some (r1, r2, r3, r4) := h
 clear h
 obtain ⟨⟨t1, t2, t3⟩, A2, H⟩ := bN H
 (try dsimp only at H)
 have HI0 := Aside0.mk hI
 have HBW := Aside0.mk hB
 have HLT := Aside0.mk hI.lt
 obtain ⟨HG, hg⟩ := hI
 have h0 := cellS146_0 HG
 have h1 := cellS146_1 HG
 have HKP : Aside0 (∀ W' : World, Below w.heap.size w W' → W'.cell? ⟨g, 0, none⟩ = some (.string s0_0) ∧ W'.cell? ⟨g, 1, none⟩ = some (.int .i64 s0_1)) := ⟨fun W' hb => ⟨(hb.cell (p := ⟨g, 0, none⟩) HLT.out).trans h0, (hb.cell (p := ⟨g, 1, none⟩) HLT.out).trans h1⟩⟩
 have H' := Aside0.mk H
 clear H hg HG hB
 go_enter Tryz.func109, Tryz.ntmps109
 go_upto_region 1 with fail
 go_region_held3 (fun W' : World => W'.cell? ⟨g, 0, none⟩ = some (.string s0_0) ∧ W'.cell? ⟨g, 1, none⟩ = some (.int .i64 s0_1) ∧ Below w.heap.size w W') ((refine ⟨(HKP.out _ ?_).1, (HKP.out _ ?_).2, ?_⟩ <;> repeat (first | exact Below.refl _ _ | assumption | apply pw_below_drewN | apply below_drew1))) (first | ((try go_simp); go_at_call 79; (with_reducible refine (word_Get.calls k s0_0 s0_1 t1 t2 t3 _ A2.out).mono ?_); rintro e w31 ⟨rfl, hb⟩; have HB31 : Below w.heap.size w w31 := below_step (by repeat (first | exact Below.refl _ _ | apply pw_below_drewN | apply below_drew1)) hb))
 have HI1 := as_ (HI0.out.below HB31)
 have HB1 := as_ (below_step HBW.out HB31)
 have HK1 := as_ (KeepBut.of_below HB31 g none)
 obtain ⟨HG1, hg1⟩ := HI1.out
 have hc0 := cellS146_0 HG1
 have hc1 := cellS146_1 HG1
 have hc2 := cellS146_2 HG1
 have hf0 := blk_frozen HG1 0
 have hf1 := blk_frozen HG1 1
 have hf2 := blk_frozen HG1 2
 have H := H'.out
 clear H' HG1 hg1 hb HB31 h0 h1 HKP HI0 HBW
 by_cases c3 : t3 = 0
 rotate_left
 ·rw [if_neg c3] at H
  have c3b0 : (t3 == 0) = false := beq_eq_false_iff_ne.mpr c3
  have c3b1 : (t3 != 0) = true := bne_iff_ne.mpr c3
  clear c3
  simp only [Option.some.injEq, Prod.mk.injEq] at H
  obtain ⟨rfl, rfl, rfl, rfl⟩ := H
  go_wp2
  repeat (go_quiet (fail); try go_wp2)
  go_ret
  exact ⟨eW, by repeat (first | (with_reducible first | exact HI1.out | apply IsS146.alloc | apply IsS146.drewN | apply IsS146.drew | apply IsS146.set_0 | apply IsS146.set_1 | apply IsS146.set_2) | exact HI1.out), by repeat (first | (with_reducible first | exact HB1.out | apply below_alloc | apply pw_below_drewN | apply below_drew1 | refine below_set ?_ (IsS146.ge HI1.out)) | exact HB1.out), by repeat (first | (with_reducible first | exact HK1.out | apply KeepBut.set_ | apply keep_drewN | apply keep_drew | apply keep_alloc) | exact HK1.out)⟩
 
 
 rw [if_pos c3] at H
 have c3b0 : (t3 == 0) = true := beq_iff_eq.mpr c3
 have c3b1 : (t3 != 0) = false := bne_eq_false_iff_eq.mpr c3
 clear c3
 by_cases c4 : t1 > 4096
 rotate_left
 ·rw [if_neg c4] at H
  have c4b0 : decide (4096 < t1) = false := decide_eq_false c4
  clear c4
  simp only [Option.some.injEq, Prod.mk.injEq] at H
  obtain ⟨rfl, rfl, rfl, rfl⟩ := H
  go_wp2
  repeat (go_quiet (fail); try go_wp2)
  go_ret
  exact ⟨eW, by repeat (first | (with_reducible first | exact HI1.out | apply IsS146.alloc | apply IsS146.drewN | apply IsS146.drew | apply IsS146.set_0 | apply IsS146.set_1 | apply IsS146.set_2) | exact HI1.out), by repeat (first | (with_reducible first | exact HB1.out | apply below_alloc | apply pw_below_drewN | apply below_drew1 | refine below_set ?_ (IsS146.ge HI1.out)) | exact HB1.out), by repeat (first | (with_reducible first | exact HK1.out | apply KeepBut.set_ | apply keep_drewN | apply keep_drew | apply keep_alloc) | exact HK1.out)⟩
 rw [if_pos c4] at H
 have c4b0 : decide (4096 < t1) = true := decide_eq_true c4
 clear c4
 simp only [Option.some.injEq, Prod.mk.injEq] at H
 obtain ⟨rfl, rfl, rfl, rfl⟩ := H
 go_wp2
 repeat (go_quiet (fail); try go_wp2)
 go_ret
 exact ⟨eW, by repeat (first | (with_reducible first | exact HI1.out | apply IsS146.alloc | apply IsS146.drewN | apply IsS146.drew | apply IsS146.set_0 | apply IsS146.set_1 | apply IsS146.set_2) | exact HI1.out), by repeat (first | (with_reducible first | exact HB1.out | apply below_alloc | apply pw_below_drewN | apply below_drew1 | refine below_set ?_ (IsS146.ge HI1.out)) | exact HB1.out), by repeat (first | (with_reducible first | exact HK1.out | apply KeepBut.set_ | apply keep_drewN | apply keep_drew | apply keep_alloc) | exact HK1.out)⟩
/-! ### cell_GetKid: function 81, by hand -/
def cell_GetKid.f (k : Nat) (a0 : ByteArray) : Option (Int × ByteArray × Int) := (cell_reader_four.f k a0 0 false).bind fun x => (cell_reader_number.f k x.2.1 x.2.2.1 x.2.2.2).bind fun y => (cell_reader_take.f y.2.1 y.2.2.1 y.2.2.2 y.1).bind fun z => (cell_PutKid.f k x.1 z.1).bind fun u => (if z.2.2.2 = true then (some (0, (⟨#[]⟩ : ByteArray), 3)) else (if u.2 = 0 then (if u.1.toList = a0.toList then (some (x.1, z.1, 0)) else (some (0, (⟨#[]⟩ : ByteArray), 3))) else (some (0, (⟨#[]⟩ : ByteArray), 3))))
theorem cell_GetKid.mono : ∀ a0 k, LeO (cell_GetKid.f k a0) (cell_GetKid.f (k + 1) a0) := by
 intro a0 k
 unfold cell_GetKid.f
 refine LeO.bind (cell_reader_four.mono _ _ _ _) (fun _ => LeO.bind (cell_reader_number.mono _ _ _ _) (fun _ => LeO.bind (LeO.refl _) (fun _ => LeO.bind (cell_PutKid.mono _ _ _) (fun _ => LeO.refl _))))
set_option maxHeartbeats 8000000 in
set_option maxRecDepth 100000 in
theorem cell_GetKid.calls (k : Nat) (a0 : ByteArray) (r1 : Int) (r2 : ByteArray) (r3 : Int) (w : World) (h : cell_GetKid.f k a0 = some (r1, r2, r3)) :
  Calls Tryz.prog 81 #[.string a0] w fun e w' => e = .returned (.tuple #[.int .i64 r1, .string r2, .int .i64 r3]) ∧ Below w.heap.size w w' := by
 have H : ((cell_reader_four.f k a0 0 false).bind fun x => (cell_reader_number.f k x.2.1 x.2.2.1 x.2.2.2).bind fun y => (cell_reader_take.f y.2.1 y.2.2.1 y.2.2.2 y.1).bind fun z => (cell_PutKid.f k x.1 z.1).bind fun u => (if z.2.2.2 = true then (some (0, (⟨#[]⟩ : ByteArray), 3)) else (if u.2 = 0 then (if u.1.toList = a0.toList then (some (x.1, z.1, 0)) else (some (0, (⟨#[]⟩ : ByteArray), 3))) else (some (0, (⟨#[]⟩ : ByteArray), 3))))) = some (r1, r2, r3) := h
 clear h
 replace H := bM H
 obtain ⟨⟨x1, x2, x3, x4⟩, A10, H⟩ := H
 replace H := bM H
 obtain ⟨⟨y1, y2, y3, y4⟩, A20, H⟩ := H
 replace H := bM H
 obtain ⟨⟨z1, z2, z3, z4⟩, A30, H⟩ := H
 replace H := bM H
 obtain ⟨⟨u1, u2⟩, A40, H⟩ := H
 have A1 := Aside0.mk A10
 have A2 := as_ (show cell_reader_number.f k x2 x3 x4 = some (y1, y2, y3, y4) from A20)
 have A3 := as_ (show cell_reader_take.f y2 y3 y4 y1 = some (z1, z2, z3, z4) from A30)
 have A4 := as_ (show cell_PutKid.f k x1 z1 = some (u1, u2) from A40)
 have H' := as_ (show (if z4 = true then (some (0, (⟨#[]⟩ : ByteArray), 3)) else (if u2 = 0 then (if u1.toList = a0.toList then (some (x1, z1, 0)) else (some (0, (⟨#[]⟩ : ByteArray), 3))) else (some (0, (⟨#[]⟩ : ByteArray), 3)))) = some (r1, r2, r3) from H)
 clear H A10 A20 A30 A40
 go_enter Tryz.func81, Tryz.ntmps81
 go_wp2_with fail
 go_at_call 107
 refine (cell_reader_four.calls k w.heap.size a0 0 false x1 x2 x3 x4 w _ ?i1 ?b1 A1.out).mono ?_
 case i1 => exact IsS146.new w _ a0 0 false (Below.refl _ _)
 case b1 => exact below_alloc (Below.refl _ _) _
 rintro e w1 ⟨rfl, hi1, hb1, hk1⟩
 go_wp2_with fail
 go_at_call 109
 refine (cell_reader_number.calls k w.heap.size x2 x3 x4 y1 y2 y3 y4 w _ ?i2 ?b2 A2.out).mono ?_
 case i2 => repeat (first | (with_reducible exact hi1) | apply IsS146.drewN | apply IsS146.drew)
 case b2 => repeat (first | (with_reducible exact hb1) | apply pw_below_drewN | apply below_drew1)
 rintro e w2 ⟨rfl, hi2, hb2, hk2⟩
 clear hi1 hb1 hk1
 go_wp2_with fail
 go_at_call 108
 refine (cell_reader_take.calls w.heap.size y2 y3 y4 y1 z1 z2 z3 z4 w _ ?i3 ?b3 A3.out).mono ?_
 case i3 => repeat (first | (with_reducible exact hi2) | apply IsS146.drewN | apply IsS146.drew)
 case b3 => repeat (first | (with_reducible exact hb2) | apply pw_below_drewN | apply below_drew1)
 rintro e w3 ⟨rfl, hi3, hb3, hk3⟩
 clear hi2 hb2 hk2
 go_wp2_with fail
 go_at_call 62
 refine (cell_PutKid.calls k x1 z1 u1 u2 _ A4.out).mono ?_
 rintro e w4 ⟨rfl, hb4⟩
 have HI := as_ (show IsS146 w w4 w.heap.size z2 z3 z4 from by first | exact hi3.below hb4 | exact IsS146.below (IsS146.drewN hi3 _) hb4)
 have HB := as_ (show Below w.heap.size w w4 from by first | exact below_step hb3 hb4 | exact below_step (pw_below_drewN hb3 _) hb4)
 obtain ⟨HG1, hg1⟩ := HI.out
 have hc2 := cellS146_2 HG1
 have hf2 := blk_frozen HG1 2
 have H := H'.out
 clear H' HG1 hg1 hi3 hb3 hk3 hb4
 cases z4 with
 | true =>
  rw [if_pos rfl] at H
  simp only [Option.some.injEq, Prod.mk.injEq] at H
  obtain ⟨rfl, rfl, rfl⟩ := H
  go_wp2
  repeat (go_quiet (fail); try go_wp2)
  go_ret3
  exact ⟨eW, by repeat (first | exact HB.out | apply pw_below_drewN | apply below_drew1)⟩
 | false =>
  rw [if_neg Bool.false_ne_true] at H
  by_cases c3 : u2 = 0
  rotate_left
  ·rw [if_neg c3] at H
   have c3b0 : (u2 == 0) = false := beq_eq_false_iff_ne.mpr c3
   have c3b1 : (u2 != 0) = true := bne_iff_ne.mpr c3
   clear c3
   simp only [Option.some.injEq, Prod.mk.injEq] at H
   obtain ⟨rfl, rfl, rfl⟩ := H
   go_wp2
   repeat (go_quiet (fail); try go_wp2)
   go_ret3
   exact ⟨eW, by repeat (first | exact HB.out | apply pw_below_drewN | apply below_drew1)⟩
 
 
  rw [if_pos c3] at H
  have c3b0 : (u2 == 0) = true := beq_iff_eq.mpr c3
  have c3b1 : (u2 != 0) = false := bne_eq_false_iff_eq.mpr c3
  clear c3
  by_cases c4 : u1.toList = a0.toList
  rotate_left
  ·rw [if_neg c4] at H
   have c4b0 : (u1.toList == a0.toList) = false := beq_eq_false_iff_ne.mpr c4
   have c4b1 : (u1.toList != a0.toList) = true := bne_iff_ne.mpr c4
   clear c4
   simp only [Option.some.injEq, Prod.mk.injEq] at H
   obtain ⟨rfl, rfl, rfl⟩ := H
   go_wp2
   repeat (go_quiet (fail); try go_wp2)
   go_ret3
   exact ⟨eW, by repeat (first | exact HB.out | apply pw_below_drewN | apply below_drew1)⟩
  rw [if_pos c4] at H
  have c4b0 : (u1.toList == a0.toList) = true := beq_iff_eq.mpr c4
  have c4b1 : (u1.toList != a0.toList) = false := bne_eq_false_iff_eq.mpr c4
  clear c4
  simp only [Option.some.injEq, Prod.mk.injEq] at H
  obtain ⟨rfl, rfl, rfl⟩ := H
  go_wp2
  repeat (go_quiet (fail); try go_wp2)
  go_ret3
  exact ⟨eW, by repeat (first | exact HB.out | apply pw_below_drewN | apply below_drew1)⟩
/-! ### inner_kids: function 43, by hand -/
theorem inner_kids.cut3 {P : Program} (t e : TypeId) {i : TypeInfo} (ht : P.underlying t = some (.slice e)) (hi : P.info? e = some i) (size : Nat) (hsz : i.size = size) (A : Option Addr) (n c : Nat) (h1 : 1 ≤ n) (hc : n ≤ c) :
  ∀ W : World, (Instr.slice t (.slice A n c) (some (.int .i64 1)) (some (.int .i64 n)) (some (.int .i64 n))).run P W = .ok (.slice (if n = 1 then A else A.map (·.add (1 * size))) (n - 1) (n - 1)) W := by
 intro W
 have hel : P.elem t = e := by simp [Program.elem, ht]
 have hu : P.underlying t = some (.slice (P.elem t)) := by rw [hel]; exact ht
 rw [run_slice_lhm (w := W) t A n c hu .i64 .i64 .i64 1 (n : Int) (n : Int) (by omega) (by omega) (by omega) (by omega), hel]
 simp [sizeOf, typeInfo, hi, hsz, sliced, Result.andThen]
theorem inner_kids.rest {W : World} {e base : Nat} {ok : Nat → Prop} {A : Option Addr} {c : Nat} {xs : List ByteArray} (h : Kd.V Kd.string e W base ok (.slice A xs.length c) xs) (h1 : 1 ≤ xs.length) :
  Kd.V Kd.string e W base ok (.slice (if xs.length = 1 then A else A.map (·.add (1 * 1))) (xs.length - 1) (xs.length - 1)) (xs.drop 1) := by
 obtain ⟨A', c', e', hl, hF⟩ := h
 cases e'
 have := Kd.V_mk (e := e) (base := base) (c := xs.length - 1) (xs := xs.drop 1) (by rw [List.length_drop]; exact Nat.le_refl _) (Kd.F_cut (c := xs.length) hF h1 (Nat.le_refl _))
 rw [List.length_drop] at this
 exact this
def inner_kids.l0 : Nat → ByteArray → List Int → List ByteArray → List ByteArray → Int → Int → Option (List Int × List ByteArray × Bool)
 | 0, _, _, _, _, _, _ => none
 | k + 1, x1, x7, x8, x14, x15, x16 => if x16 < x15 then (if 0 ≤ x16 then (if x16 < (x14.length : Int) then ((cell_GetKid.f k (rdOf ByteArray.empty x14 x16)).bind fun bt390 => (if bt390.2.2 = 0 then (if x16 = 0 then (if bt390.2.1.toList = ([] : List UInt8) then (if x7.length < 17592186044416 then (if x1.size + bt390.2.1.size ≤ 9223372036854775807 then (if x8.length < 8796093022208 then (inner_kids.l0 k x1 (x7 ++ [bt390.1]) (x8 ++ [x1 ++ bt390.2.1]) x14 x15 (wrap64 (x16 + 1))) else (none)) else (none)) else (none)) else (some (([] : List Int), ([] : List ByteArray), false))) else (if x7.length < 17592186044416 then (if x1.size + bt390.2.1.size ≤ 9223372036854775807 then (if x8.length < 8796093022208 then (inner_kids.l0 k x1 (x7 ++ [bt390.1]) (x8 ++ [x1 ++ bt390.2.1]) x14 x15 (wrap64 (x16 + 1))) else (none)) else (none)) else (none))) else (some (([] : List Int), ([] : List ByteArray), false)))) else (none)) else (none)) else (if (x7.length : Int) = 0 then (some (([] : List Int), ([] : List ByteArray), false)) else (if 1 ≤ (x8.length : Int) then (if (x8.length : Int) ≤ (x8.length : Int) then (some (x7, x8.drop 1, true)) else (none)) else (none)))
def inner_kids.f (k : Nat) (l0 : List ByteArray) (a1 : ByteArray) : Option (List Int × List ByteArray × Bool) := inner_kids.l0 k a1 ([] : List Int) ([] : List ByteArray) l0 (l0.length : Int) 0
theorem inner_kids.mono_l : ∀ k, (∀ y0 y1 y2 y3 y4 y5, LeO (inner_kids.l0 k y0 y1 y2 y3 y4 y5) (inner_kids.l0 (k + 1) y0 y1 y2 y3 y4 y5))
 | 0 => fun _ _ _ _ _ _ r h => by simp [inner_kids.l0] at h
 | k + 1 => by
  have ih0 := inner_kids.mono_l k
  ·intro y0 y1 y2 y3 y4 y5
   unfold inner_kids.l0
   repeat' first
   | (with_reducible exact ih0 _ _ _ _ _ _)
   | (with_reducible exact cell_GetKid.mono _ _)
   | (with_reducible exact LeO.refl _)
   | (with_reducible exact LeO.none _)
   | (with_reducible refine LeO.ite ?_ ?_)
   | (with_reducible refine LeO.bind ?_ (fun _ => ?_))
   | exact ih0 _ _ _ _ _ _
   | exact cell_GetKid.mono _ _
   | exact LeO.none _
   | refine LeO.ite ?_ ?_
   | refine LeO.bind ?_ (fun _ => ?_)
theorem inner_kids.mono : ∀ a0 a1 k, LeO (inner_kids.f k a0 a1) (inner_kids.f (k + 1) a0 a1) := by
 intro a0 a1 k
 have ih0 := inner_kids.mono_l k
 unfold inner_kids.f
 repeat' first
   | (with_reducible exact ih0 _ _ _ _ _ _)
   | (with_reducible exact cell_GetKid.mono _ _)
   | (with_reducible exact LeO.refl _)
   | (with_reducible exact LeO.none _)
   | (with_reducible refine LeO.ite ?_ ?_)
   | (with_reducible refine LeO.bind ?_ (fun _ => ?_))
   | exact ih0 _ _ _ _ _ _
   | exact cell_GetKid.mono _ _
   | exact LeO.none _
   | refine LeO.ite ?_ ?_
   | refine LeO.bind ?_ (fun _ => ?_)
set_option maxHeartbeats 8000000 in
set_option maxRecDepth 100000 in
theorem inner_kids.calls (k : Nat) (A0 : Option Addr) (c0 : Nat) (l0 : List ByteArray) (a1 : ByteArray) (r1 : List Int) (r2 : List ByteArray) (r3 : Bool) (w : World) (hr0 : Kd.C Kd.string w A0 l0.length l0) (hc0 : l0.length ≤ c0) (h : inner_kids.f k l0 a1 = some (r1, r2, r3)) :
  Calls Tryz.prog 43 #[.slice A0 l0.length c0, .string a1] w fun e w' => ∃ v0_ v1_ : Value, e = .returned (.tuple #[v0_, v1_, .bool r3]) ∧ Kd.R (Kd.int .i64) 3 w' w.heap.size (fun k_ => (w.heap.size ≤ k_)) v0_ r1 ∧ Kd.V Kd.string 9 w' w.heap.size (fun k_ => (w.heap.size ≤ k_) ∧ some k_ ≠ (v0_ : Value).ownBlock) v1_ r2 ∧ Below w.heap.size w w' := by
 have HR0 := Aside0.mk hr0
 have HC0 := Aside0.mk hc0
 clear hr0 hc0
 have HB := as_ (Below.refl w.heap.size w)
 have H : (inner_kids.l0 k a1 ([] : List Int) ([] : List ByteArray) l0 (l0.length : Int) 0) = some (r1, r2, r3) := h
 clear h
 have H' := Aside0.mk H
 clear H
 go_enter Tryz.func43, Tryz.ntmps43
 go_wp2
 repeat (go_quiet (fail); try go_wp2)
 go_loopg [7, 8, 16] k (fun kq v7 v8 v16 w' => ∃ (x7_1 : List Int) (x8_1 : List ByteArray) (x16_1 : Int), v16 = .int .i64 x16_1 ∧ Aside0 (inner_kids.l0 kq a1 x7_1 x8_1 l0 (l0.length : Int) x16_1 = some (r1, r2, r3)) ∧ Aside0 (kq ≤ k) ∧ Aside0 (Kd.R (Kd.int .i64) 3 w' w.heap.size (fun k_ => (w.heap.size ≤ k_)) v7 x7_1) ∧ Aside0 (Kd.R Kd.string 9 w' w.heap.size (fun k_ => (w.heap.size ≤ k_)) v8 x8_1) ∧ Aside0 (Below w.heap.size w w'))
 case atStart => exact ⟨(([] : List Int)), (([] : List ByteArray)), (0), (by first | rfl | (simp; done) | (simp [*]; done)), H', ⟨Nat.le_refl _⟩, ⟨by first | exact Kd.R_nil _ _ _ _ _ | exact Kd.N_nil _ _ _ _ _ | exact Kd.V_nil _ _ _ _ _ | exact Kd.Q_nil _ _ _ _ _ | exact Kd.S_nil _ _ _ _ _⟩, ⟨by first | exact Kd.R_nil _ _ _ _ _ | exact Kd.N_nil _ _ _ _ _ | exact Kd.V_nil _ _ _ _ _ | exact Kd.Q_nil _ _ _ _ _ | exact Kd.S_nil _ _ _ _ _⟩, ⟨bA⟩⟩
 case round =>
  clear H'
  try clear p2
  obtain ⟨x7_1, x8_1, x16_1, rfl, HA, HK1, HO_7, HO_8, HB⟩ := hrel
  cases gk with
  | zero => exact absurd HA.out (by simp [inner_kids.l0])
  | succ k1 =>
   have H := HA.out
   clear HA
   simp only [inner_kids.l0] at H
   by_cases c3 : x16_1 < (l0.length : Int)
   rotate_left
   ·rw [if_neg c3] at H
    have c3b0 := decide_eq_false c3
    clear c3
    by_cases c26 : (x7_1.length : Int) = 0
    ·rw [if_pos c26] at H
     have c26b0 := beq_iff_eq.mpr c26
     have c26b1 := bne_eq_false_iff_eq.mpr c26
     clear c26
     simp only [Option.some.injEq, Prod.mk.injEq] at H
     obtain ⟨rfl, rfl, rfl⟩ := H
     obtain ⟨Ao27, co27, eo27⟩ := Kd.R_slice HO_7.out
     subst eo27
     go_wp2
     repeat (go_quiet (fail); try go_wp2)
     go_ret3
     exact ⟨_, _, eW, by first | exact Kd.R_nil _ _ _ _ _ | exact Kd.N_nil _ _ _ _ _ | exact Kd.V_nil _ _ _ _ _ | exact Kd.Q_nil _ _ _ _ _ | exact Kd.S_nil _ _ _ _ _, Kd.R_V (base := w.heap.size) (by first | exact Kd.R_nil _ _ _ _ _ | exact Kd.N_nil _ _ _ _ _ | exact Kd.V_nil _ _ _ _ _ | exact Kd.Q_nil _ _ _ _ _ | exact Kd.S_nil _ _ _ _ _), bA⟩
    rw [if_neg c26] at H
    have c26b0 := beq_eq_false_iff_ne.mpr c26
    have c26b1 := bne_iff_ne.mpr c26
    have c26b2 : ¬ (x7_1 = []) := fun h_ => c26 (by rw [h_]; rfl)
    obtain ⟨c28, H⟩ := iN (c := 1 ≤ (x8_1.length : Int)) H
    have c28b0 := eq_true c28
    have c28b1 := decide_eq_true c28
    clear c28
    obtain ⟨c29, H⟩ := iN (c := (x8_1.length : Int) ≤ (x8_1.length : Int)) H
    have q31 : (1 : Int) ≤ (x8_1.length : Int) := of_decide_eq_true c28b1
    clear c29
    simp only [Option.some.injEq, Prod.mk.injEq] at H
    obtain ⟨rfl, hr2, rfl⟩ := H
    have HR2 := Aside0.mk hr2
    clear hr2
    obtain ⟨Ao30, co30, eo30⟩ := Kd.R_slice HO_7.out
    subst eo30
    obtain ⟨Ao31, co31, eo31⟩ := Kd.R_slice HO_8.out
    subst eo31
    obtain ⟨i032, hi032, _, hsz32, _⟩ := info_parts info9
    have hcut32 := inner_kids.cut3 (P := Tryz.prog) 23 9 Tryz.underlying23 hi032 1 hsz32 Ao31 x8_1.length co31 (by omega) (Kd.R_reads' HO_8.out).2.1
    obtain ⟨A5, hA5⟩ : ∃ a_ : Option Addr, a_ = (if x8_1.length = 1 then Ao31 else Ao31.map (·.add (1 * 1))) := ⟨_, rfl⟩
    rw [← hA5] at hcut32
    have HA5 := Aside0.mk hA5
    clear hA5
    have HQ := Aside0.mk q31
    clear q31 hi032 hsz32
    go_wp2
    repeat (go_quiet (fail); try go_wp2)
    go_ret3
    exact ⟨_, _, eW, by (with_reducible repeat (first | apply Kd.R_alloc | apply Kd.R_drewN | apply Kd.R_drew)); exact HO_7.out, (by have e5 := HA5.out; subst e5; have e2 := HR2.out; subst e2; exact inner_kids.rest (base := w.heap.size) (Kd.R_V (base' := w.heap.size) (by (with_reducible repeat (first | apply Kd.R_alloc | apply Kd.R_drewN | apply Kd.R_drew)); exact (Kd.R_apart' HO_8.out (Kd.R_typed HO_7.out) (by decide)))) (by have := HQ.out; omega)), bA⟩
   rw [if_pos c3] at H
   have c3b0 := decide_eq_true c3
   clear c3
   obtain ⟨c4, H⟩ := iN (c := 0 ≤ x16_1) H
   have c4b0 := decide_eq_true c4
   clear c4
   obtain ⟨c5, H⟩ := iN (c := x16_1 < (l0.length : Int)) H
   have c5b0 := decide_eq_true c5
   clear c5
   obtain ⟨⟨t390, t391, t392⟩, A6, H⟩ := bN H
   (try dsimp only at H)
   by_cases c7 : t392 = 0
   rotate_left
   ·rw [if_neg c7] at H
    have c7b0 := beq_eq_false_iff_ne.mpr c7
    have c7b1 := bne_iff_ne.mpr c7
    simp only [Option.some.injEq, Prod.mk.injEq] at H
    obtain ⟨rfl, rfl, rfl⟩ := H
    have p389 : 0 ≤ (x16_1 : Int) := of_decide_eq_true aM
    have q389 : x16_1 < (l0.length : Int) := of_decide_eq_true aM
    obtain ⟨ad389, e389, hx389_0⟩ := Kd.at_string HR0.out x16_1 p389 q389
    cases e389
    replace hx389_0 := (HB.out.cell (World.block_lt_of_cell? w _ hx389_0)).trans hx389_0
    replace p389 := eq_true p389
    replace q389 := eq_true q389
    go_wp2_with (first | (go_at_call 81; (with_reducible refine (cell_GetKid.calls k1 (rdOf ByteArray.empty l0 x16_1) t390 t391 t392 _ A6.out).mono ?_); rintro e w25 ⟨rfl, hb⟩; replace HO_7 := as_ (Kd.R_below (rD HO_7) hb); replace HO_8 := as_ (Kd.R_below (rD HO_8) hb); replace HB := as_ (below_step bA hb); (try clear hb); (try clear hi)))
    repeat (go_quiet (first | (go_at_call 81; (with_reducible refine (cell_GetKid.calls k1 (rdOf ByteArray.empty l0 x16_1) t390 t391 t392 _ A6.out).mono ?_); rintro e w25 ⟨rfl, hb⟩; replace HO_7 := as_ (Kd.R_below (rD HO_7) hb); replace HO_8 := as_ (Kd.R_below (rD HO_8) hb); replace HB := as_ (below_step bA hb); (try clear hb); (try clear hi))); try go_wp2_with (first | (go_at_call 81; (with_reducible refine (cell_GetKid.calls k1 (rdOf ByteArray.empty l0 x16_1) t390 t391 t392 _ A6.out).mono ?_); rintro e w25 ⟨rfl, hb⟩; replace HO_7 := as_ (Kd.R_below (rD HO_7) hb); replace HO_8 := as_ (Kd.R_below (rD HO_8) hb); replace HB := as_ (below_step bA hb); (try clear hb); (try clear hi))))
    go_ret3
    exact ⟨_, _, eW, by first | exact Kd.R_nil _ _ _ _ _ | exact Kd.N_nil _ _ _ _ _ | exact Kd.V_nil _ _ _ _ _ | exact Kd.Q_nil _ _ _ _ _ | exact Kd.S_nil _ _ _ _ _, Kd.R_V (base := w.heap.size) (by first | exact Kd.R_nil _ _ _ _ _ | exact Kd.N_nil _ _ _ _ _ | exact Kd.V_nil _ _ _ _ _ | exact Kd.Q_nil _ _ _ _ _ | exact Kd.S_nil _ _ _ _ _), bA⟩
   rw [if_pos c7] at H
   have c7b0 := beq_iff_eq.mpr c7
   have c7b1 := bne_eq_false_iff_eq.mpr c7
   clear c7
   by_cases c8 : x16_1 = 0
   rotate_left
   ·rw [if_neg c8] at H
    have c8b0 : (x16_1 == 0) = false := beq_eq_false_iff_ne.mpr c8
    have c8b1 : (x16_1 != 0) = true := bne_iff_ne.mpr c8
    obtain ⟨c18, H⟩ := iN (c := x7_1.length < 17592186044416) H
    have LMc18 := Aside0.mk c18
    clear c18
    obtain ⟨y399, hy399⟩ : ∃ y_ : List Int, y_ = (x7_1 ++ [t390]) := ⟨_, rfl⟩
    replace H : (if a1.size + t391.size ≤ 9223372036854775807 then (if x8_1.length < 8796093022208 then (inner_kids.l0 k1 a1 y399 (x8_1 ++ [a1 ++ t391]) l0 (l0.length : Int) (wrap64 (x16_1 + 1))) else (none)) else (none)) = some (r1, r2, r3) := by first | (rw [hy399]; with_reducible exact H) | (have H2_ := (Option.bind_some _ _).symm.trans H; rw [hy399]; with_reducible exact H2_) | (have H2_ := (Option.bind_some _ _).symm.trans H; with_reducible exact H2_) | with_reducible exact H | (rw [hy399]; exact H) | exact H
    have Ny399 := Aside0.mk hy399
    clear hy399
    obtain ⟨c19, H⟩ := iN (c := a1.size + t391.size ≤ 9223372036854775807) H
    have c19b0 := eq_true c19
    have c19b1 := decide_eq_true c19
    try have c19b2 : (9223372036854775807 < a1.size + t391.size) = False := eq_false (Nat.not_lt.2 c19)
    obtain ⟨js20, hjs20⟩ : ∃ j_ : ByteArray, (a1 ++ t391) = j_ := ⟨_, rfl⟩
    replace H : (if x8_1.length < 8796093022208 then (inner_kids.l0 k1 a1 y399 (x8_1 ++ [js20]) l0 (l0.length : Int) (wrap64 (x16_1 + 1))) else (none)) = some (r1, r2, r3) := by first | (rw [hjs20] at H; exact H) | (simp only [hjs20] at H ⊢; exact H)
    (try rw [hjs20] at A6)
    obtain ⟨c21, H⟩ := iN (c := x8_1.length < 8796093022208) H
    have LMc21 := Aside0.mk c21
    clear c21
    obtain ⟨y402, hy402⟩ : ∃ y_ : List ByteArray, y_ = (x8_1 ++ [js20]) := ⟨_, rfl⟩
    replace H : (inner_kids.l0 k1 a1 y399 y402 l0 (l0.length : Int) (wrap64 (x16_1 + 1))) = some (r1, r2, r3) := by first | (rw [hy402]; with_reducible exact H) | (have H2_ := (Option.bind_some _ _).symm.trans H; rw [hy402]; with_reducible exact H2_) | (have H2_ := (Option.bind_some _ _).symm.trans H; with_reducible exact H2_) | with_reducible exact H | (rw [hy402]; exact H) | exact H
    have Ny402 := Aside0.mk hy402
    clear hy402
    have H' := Aside0.mk H
    clear H
    have p389 : 0 ≤ (x16_1 : Int) := of_decide_eq_true aM
    have q389 : x16_1 < (l0.length : Int) := of_decide_eq_true aM
    obtain ⟨ad389, e389, hx389_0⟩ := Kd.at_string HR0.out x16_1 p389 q389
    cases e389
    replace hx389_0 := (HB.out.cell (World.block_lt_of_cell? w _ hx389_0)).trans hx389_0
    replace p389 := eq_true p389
    replace q389 := eq_true q389
    go_wp2_with (first | (go_at_call 81; (with_reducible refine (cell_GetKid.calls k1 (rdOf ByteArray.empty l0 x16_1) t390 t391 t392 _ A6.out).mono ?_); rintro e w22 ⟨rfl, hb⟩; replace HO_7 := as_ (Kd.R_below (rD HO_7) hb); replace HO_8 := as_ (Kd.R_below (rD HO_8) hb); replace HB := as_ (below_step bA hb); (try clear hb); (try clear hi)) | ((with_reducible refine gate_builtin (b := .append) (xs := #[.tmp 37, .tmp 39]) rfl ?_); at_builtin; refine Kd.R_append (Kd.int .i64) (w0 := w) w.heap.size rfl (.tmp 37) (.tmp 39) 22 3 (.int .i64 0) 8 rfl Tryz.underlying22 info3 rfl (by decide) (by omega) u7 x7_1 t390 [.int .i64 t390] (fun k_ => (w.heap.size ≤ k_)) (fun _ => False) rfl rfl ?aP (fun _ hk => hk.elim) ?aF ?aO ?aB ?aS ?aL ?_; (case aP => exact rfl); (case aB => exact bA); (case aF => exact (fun k_ hk => (Nat.le_trans (below_size bA) hk))); (case aO => exact (rD HO_7)); (case aS => exact (below_size bA)); (case aL => have := LMc18.out; omega); intro v400 w23 ho hb hg hat; rw [← Ny399.out] at ho; have HO401 := as_ (ho); replace HO_8 := as_ (Kd.R_over' (rD HO_8) (Kd.R_typed (rD HO_7)) (by decide) hg); replace HB := as_ (hb); clear HO_7; clear ho hb hg hat) | ((with_reducible refine gate_builtin (b := .append) (xs := #[.tmp 41, .tmp 45]) rfl ?_); at_builtin; refine Kd.R_append Kd.string (w0 := w) w.heap.size rfl (.tmp 41) (.tmp 45) 23 9 (.string ⟨#[]⟩) 16 rfl Tryz.underlying23 info9 rfl (by decide) (by omega) u8 x8_1 js20 [.string js20] (fun k_ => (w.heap.size ≤ k_)) (fun _ => False) rfl rfl ?aP (fun _ hk => hk.elim) ?aF ?aO ?aB ?aS ?aL ?_; (case aP => exact rfl); (case aB => exact bA); (case aF => exact (fun k_ hk => (Nat.le_trans (below_size bA) hk))); (case aO => exact (rD HO_8)); (case aS => exact (below_size bA)); (case aL => have := LMc21.out; omega); intro v403 w24 ho hb hg hat; rw [← Ny402.out] at ho; have HO404 := as_ (ho); replace HO401 := as_ (Kd.R_over' (rD HO401) (Kd.R_typed (rD HO_8)) (by decide) hg); replace HB := as_ (hb); clear HO_8; clear ho hb hg hat))
    repeat (go_quiet (first | (go_at_call 81; (with_reducible refine (cell_GetKid.calls k1 (rdOf ByteArray.empty l0 x16_1) t390 t391 t392 _ A6.out).mono ?_); rintro e w22 ⟨rfl, hb⟩; replace HO_7 := as_ (Kd.R_below (rD HO_7) hb); replace HO_8 := as_ (Kd.R_below (rD HO_8) hb); replace HB := as_ (below_step bA hb); (try clear hb); (try clear hi)) | ((with_reducible refine gate_builtin (b := .append) (xs := #[.tmp 37, .tmp 39]) rfl ?_); at_builtin; refine Kd.R_append (Kd.int .i64) (w0 := w) w.heap.size rfl (.tmp 37) (.tmp 39) 22 3 (.int .i64 0) 8 rfl Tryz.underlying22 info3 rfl (by decide) (by omega) u7 x7_1 t390 [.int .i64 t390] (fun k_ => (w.heap.size ≤ k_)) (fun _ => False) rfl rfl ?aP (fun _ hk => hk.elim) ?aF ?aO ?aB ?aS ?aL ?_; (case aP => exact rfl); (case aB => exact bA); (case aF => exact (fun k_ hk => (Nat.le_trans (below_size bA) hk))); (case aO => exact (rD HO_7)); (case aS => exact (below_size bA)); (case aL => have := LMc18.out; omega); intro v400 w23 ho hb hg hat; rw [← Ny399.out] at ho; have HO401 := as_ (ho); replace HO_8 := as_ (Kd.R_over' (rD HO_8) (Kd.R_typed (rD HO_7)) (by decide) hg); replace HB := as_ (hb); clear HO_7; clear ho hb hg hat) | ((with_reducible refine gate_builtin (b := .append) (xs := #[.tmp 41, .tmp 45]) rfl ?_); at_builtin; refine Kd.R_append Kd.string (w0 := w) w.heap.size rfl (.tmp 41) (.tmp 45) 23 9 (.string ⟨#[]⟩) 16 rfl Tryz.underlying23 info9 rfl (by decide) (by omega) u8 x8_1 js20 [.string js20] (fun k_ => (w.heap.size ≤ k_)) (fun _ => False) rfl rfl ?aP (fun _ hk => hk.elim) ?aF ?aO ?aB ?aS ?aL ?_; (case aP => exact rfl); (case aB => exact bA); (case aF => exact (fun k_ hk => (Nat.le_trans (below_size bA) hk))); (case aO => exact (rD HO_8)); (case aS => exact (below_size bA)); (case aL => have := LMc21.out; omega); intro v403 w24 ho hb hg hat; rw [← Ny402.out] at ho; have HO404 := as_ (ho); replace HO401 := as_ (Kd.R_over' (rD HO401) (Kd.R_typed (rD HO_8)) (by decide) hg); replace HB := as_ (hb); clear HO_8; clear ho hb hg hat)); try go_wp2_with (first | (go_at_call 81; (with_reducible refine (cell_GetKid.calls k1 (rdOf ByteArray.empty l0 x16_1) t390 t391 t392 _ A6.out).mono ?_); rintro e w22 ⟨rfl, hb⟩; replace HO_7 := as_ (Kd.R_below (rD HO_7) hb); replace HO_8 := as_ (Kd.R_below (rD HO_8) hb); replace HB := as_ (below_step bA hb); (try clear hb); (try clear hi)) | ((with_reducible refine gate_builtin (b := .append) (xs := #[.tmp 37, .tmp 39]) rfl ?_); at_builtin; refine Kd.R_append (Kd.int .i64) (w0 := w) w.heap.size rfl (.tmp 37) (.tmp 39) 22 3 (.int .i64 0) 8 rfl Tryz.underlying22 info3 rfl (by decide) (by omega) u7 x7_1 t390 [.int .i64 t390] (fun k_ => (w.heap.size ≤ k_)) (fun _ => False) rfl rfl ?aP (fun _ hk => hk.elim) ?aF ?aO ?aB ?aS ?aL ?_; (case aP => exact rfl); (case aB => exact bA); (case aF => exact (fun k_ hk => (Nat.le_trans (below_size bA) hk))); (case aO => exact (rD HO_7)); (case aS => exact (below_size bA)); (case aL => have := LMc18.out; omega); intro v400 w23 ho hb hg hat; rw [← Ny399.out] at ho; have HO401 := as_ (ho); replace HO_8 := as_ (Kd.R_over' (rD HO_8) (Kd.R_typed (rD HO_7)) (by decide) hg); replace HB := as_ (hb); clear HO_7; clear ho hb hg hat) | ((with_reducible refine gate_builtin (b := .append) (xs := #[.tmp 41, .tmp 45]) rfl ?_); at_builtin; refine Kd.R_append Kd.string (w0 := w) w.heap.size rfl (.tmp 41) (.tmp 45) 23 9 (.string ⟨#[]⟩) 16 rfl Tryz.underlying23 info9 rfl (by decide) (by omega) u8 x8_1 js20 [.string js20] (fun k_ => (w.heap.size ≤ k_)) (fun _ => False) rfl rfl ?aP (fun _ hk => hk.elim) ?aF ?aO ?aB ?aS ?aL ?_; (case aP => exact rfl); (case aB => exact bA); (case aF => exact (fun k_ hk => (Nat.le_trans (below_size bA) hk))); (case aO => exact (rD HO_8)); (case aS => exact (below_size bA)); (case aL => have := LMc21.out; omega); intro v403 w24 ho hb hg hat; rw [← Ny402.out] at ho; have HO404 := as_ (ho); replace HO401 := as_ (Kd.R_over' (rD HO401) (Kd.R_typed (rD HO_8)) (by decide) hg); replace HB := as_ (hb); clear HO_8; clear ho hb hg hat)))
    go_roundg k1
    case measure => have := HK1.out; omega
    case rel => exact ⟨(y399), (y402), (wrap64 (x16_1 + 1)), (by first | rfl | (simp; done) | (simp [*]; done)), H', ⟨by have := HK1.out; omega⟩, ⟨by (with_reducible repeat (first | apply Kd.R_alloc | apply Kd.R_drewN | apply Kd.R_drew)); exact HO401.out⟩, ⟨by (with_reducible repeat (first | apply Kd.R_alloc | apply Kd.R_drewN | apply Kd.R_drew)); exact HO404.out⟩, ⟨bA⟩⟩
   rw [if_pos c8] at H
   have c8b0 : (x16_1 == 0) = true := beq_iff_eq.mpr c8
   have c8b1 : (x16_1 != 0) = false := bne_eq_false_iff_eq.mpr c8
   clear c8
   by_cases c9 : t391.toList = ([] : List UInt8)
   rotate_left
   ·rw [if_neg c9] at H
    have c9b0 : (t391.toList == ([] : List UInt8)) = false := beq_eq_false_iff_ne.mpr c9
    have c9b1 : (t391.toList != ([] : List UInt8)) = true := bne_iff_ne.mpr c9
    simp only [Option.some.injEq, Prod.mk.injEq] at H
    obtain ⟨rfl, rfl, rfl⟩ := H
    have p389 : 0 ≤ (x16_1 : Int) := of_decide_eq_true aM
    have q389 : x16_1 < (l0.length : Int) := of_decide_eq_true aM
    obtain ⟨ad389, e389, hx389_0⟩ := Kd.at_string HR0.out x16_1 p389 q389
    cases e389
    replace hx389_0 := (HB.out.cell (World.block_lt_of_cell? w _ hx389_0)).trans hx389_0
    replace p389 := eq_true p389
    replace q389 := eq_true q389
    go_wp2_with (first | (go_at_call 81; (with_reducible refine (cell_GetKid.calls k1 (rdOf ByteArray.empty l0 x16_1) t390 t391 t392 _ A6.out).mono ?_); rintro e w17 ⟨rfl, hb⟩; replace HO_7 := as_ (Kd.R_below (rD HO_7) hb); replace HO_8 := as_ (Kd.R_below (rD HO_8) hb); replace HB := as_ (below_step bA hb); (try clear hb); (try clear hi)))
    repeat (go_quiet (first | (go_at_call 81; (with_reducible refine (cell_GetKid.calls k1 (rdOf ByteArray.empty l0 x16_1) t390 t391 t392 _ A6.out).mono ?_); rintro e w17 ⟨rfl, hb⟩; replace HO_7 := as_ (Kd.R_below (rD HO_7) hb); replace HO_8 := as_ (Kd.R_below (rD HO_8) hb); replace HB := as_ (below_step bA hb); (try clear hb); (try clear hi))); try go_wp2_with (first | (go_at_call 81; (with_reducible refine (cell_GetKid.calls k1 (rdOf ByteArray.empty l0 x16_1) t390 t391 t392 _ A6.out).mono ?_); rintro e w17 ⟨rfl, hb⟩; replace HO_7 := as_ (Kd.R_below (rD HO_7) hb); replace HO_8 := as_ (Kd.R_below (rD HO_8) hb); replace HB := as_ (below_step bA hb); (try clear hb); (try clear hi))))
    go_ret3
    exact ⟨_, _, eW, by first | exact Kd.R_nil _ _ _ _ _ | exact Kd.N_nil _ _ _ _ _ | exact Kd.V_nil _ _ _ _ _ | exact Kd.Q_nil _ _ _ _ _ | exact Kd.S_nil _ _ _ _ _, Kd.R_V (base := w.heap.size) (by first | exact Kd.R_nil _ _ _ _ _ | exact Kd.N_nil _ _ _ _ _ | exact Kd.V_nil _ _ _ _ _ | exact Kd.Q_nil _ _ _ _ _ | exact Kd.S_nil _ _ _ _ _), bA⟩
   rw [if_pos c9] at H
   have c9b0 : (t391.toList == ([] : List UInt8)) = true := beq_iff_eq.mpr c9
   have c9b1 : (t391.toList != ([] : List UInt8)) = false := bne_eq_false_iff_eq.mpr c9
   clear c9
   obtain ⟨c10, H⟩ := iN (c := x7_1.length < 17592186044416) H
   have LMc10 := Aside0.mk c10
   clear c10
   obtain ⟨y393, hy393⟩ : ∃ y_ : List Int, y_ = (x7_1 ++ [t390]) := ⟨_, rfl⟩
   replace H : (if a1.size + t391.size ≤ 9223372036854775807 then (if x8_1.length < 8796093022208 then (inner_kids.l0 k1 a1 y393 (x8_1 ++ [a1 ++ t391]) l0 (l0.length : Int) (wrap64 (x16_1 + 1))) else (none)) else (none)) = some (r1, r2, r3) := by first | (rw [hy393]; with_reducible exact H) | (have H2_ := (Option.bind_some _ _).symm.trans H; rw [hy393]; with_reducible exact H2_) | (have H2_ := (Option.bind_some _ _).symm.trans H; with_reducible exact H2_) | with_reducible exact H | (rw [hy393]; exact H) | exact H
   have Ny393 := Aside0.mk hy393
   clear hy393
   obtain ⟨c11, H⟩ := iN (c := a1.size + t391.size ≤ 9223372036854775807) H
   have c11b0 := eq_true c11
   have c11b1 := decide_eq_true c11
   try have c11b2 : (9223372036854775807 < a1.size + t391.size) = False := eq_false (Nat.not_lt.2 c11)
   obtain ⟨js12, hjs12⟩ : ∃ j_ : ByteArray, (a1 ++ t391) = j_ := ⟨_, rfl⟩
   replace H : (if x8_1.length < 8796093022208 then (inner_kids.l0 k1 a1 y393 (x8_1 ++ [js12]) l0 (l0.length : Int) (wrap64 (x16_1 + 1))) else (none)) = some (r1, r2, r3) := by first | (rw [hjs12] at H; exact H) | (simp only [hjs12] at H ⊢; exact H)
   (try rw [hjs12] at A6)
   obtain ⟨c13, H⟩ := iN (c := x8_1.length < 8796093022208) H
   have LMc13 := Aside0.mk c13
   clear c13
   obtain ⟨y396, hy396⟩ : ∃ y_ : List ByteArray, y_ = (x8_1 ++ [js12]) := ⟨_, rfl⟩
   replace H : (inner_kids.l0 k1 a1 y393 y396 l0 (l0.length : Int) (wrap64 (x16_1 + 1))) = some (r1, r2, r3) := by first | (rw [hy396]; with_reducible exact H) | (have H2_ := (Option.bind_some _ _).symm.trans H; rw [hy396]; with_reducible exact H2_) | (have H2_ := (Option.bind_some _ _).symm.trans H; with_reducible exact H2_) | with_reducible exact H | (rw [hy396]; exact H) | exact H
   have Ny396 := Aside0.mk hy396
   clear hy396
   have H' := Aside0.mk H
   clear H
   have p389 : 0 ≤ (x16_1 : Int) := of_decide_eq_true aM
   have q389 : x16_1 < (l0.length : Int) := of_decide_eq_true aM
   obtain ⟨ad389, e389, hx389_0⟩ := Kd.at_string HR0.out x16_1 p389 q389
   cases e389
   replace hx389_0 := (HB.out.cell (World.block_lt_of_cell? w _ hx389_0)).trans hx389_0
   replace p389 := eq_true p389
   replace q389 := eq_true q389
   go_wp2_with (first | (go_at_call 81; (with_reducible refine (cell_GetKid.calls k1 (rdOf ByteArray.empty l0 x16_1) t390 t391 t392 _ A6.out).mono ?_); rintro e w14 ⟨rfl, hb⟩; replace HO_7 := as_ (Kd.R_below (rD HO_7) hb); replace HO_8 := as_ (Kd.R_below (rD HO_8) hb); replace HB := as_ (below_step bA hb); (try clear hb); (try clear hi)) | ((with_reducible refine gate_builtin (b := .append) (xs := #[.tmp 37, .tmp 39]) rfl ?_); at_builtin; refine Kd.R_append (Kd.int .i64) (w0 := w) w.heap.size rfl (.tmp 37) (.tmp 39) 22 3 (.int .i64 0) 8 rfl Tryz.underlying22 info3 rfl (by decide) (by omega) u7 x7_1 t390 [.int .i64 t390] (fun k_ => (w.heap.size ≤ k_)) (fun _ => False) rfl rfl ?aP (fun _ hk => hk.elim) ?aF ?aO ?aB ?aS ?aL ?_; (case aP => exact rfl); (case aB => exact bA); (case aF => exact (fun k_ hk => (Nat.le_trans (below_size bA) hk))); (case aO => exact (rD HO_7)); (case aS => exact (below_size bA)); (case aL => have := LMc10.out; omega); intro v394 w15 ho hb hg hat; rw [← Ny393.out] at ho; have HO395 := as_ (ho); replace HO_8 := as_ (Kd.R_over' (rD HO_8) (Kd.R_typed (rD HO_7)) (by decide) hg); replace HB := as_ (hb); clear HO_7; clear ho hb hg hat) | ((with_reducible refine gate_builtin (b := .append) (xs := #[.tmp 41, .tmp 45]) rfl ?_); at_builtin; refine Kd.R_append Kd.string (w0 := w) w.heap.size rfl (.tmp 41) (.tmp 45) 23 9 (.string ⟨#[]⟩) 16 rfl Tryz.underlying23 info9 rfl (by decide) (by omega) u8 x8_1 js12 [.string js12] (fun k_ => (w.heap.size ≤ k_)) (fun _ => False) rfl rfl ?aP (fun _ hk => hk.elim) ?aF ?aO ?aB ?aS ?aL ?_; (case aP => exact rfl); (case aB => exact bA); (case aF => exact (fun k_ hk => (Nat.le_trans (below_size bA) hk))); (case aO => exact (rD HO_8)); (case aS => exact (below_size bA)); (case aL => have := LMc13.out; omega); intro v397 w16 ho hb hg hat; rw [← Ny396.out] at ho; have HO398 := as_ (ho); replace HO395 := as_ (Kd.R_over' (rD HO395) (Kd.R_typed (rD HO_8)) (by decide) hg); replace HB := as_ (hb); clear HO_8; clear ho hb hg hat))
   repeat (go_quiet (first | (go_at_call 81; (with_reducible refine (cell_GetKid.calls k1 (rdOf ByteArray.empty l0 x16_1) t390 t391 t392 _ A6.out).mono ?_); rintro e w14 ⟨rfl, hb⟩; replace HO_7 := as_ (Kd.R_below (rD HO_7) hb); replace HO_8 := as_ (Kd.R_below (rD HO_8) hb); replace HB := as_ (below_step bA hb); (try clear hb); (try clear hi)) | ((with_reducible refine gate_builtin (b := .append) (xs := #[.tmp 37, .tmp 39]) rfl ?_); at_builtin; refine Kd.R_append (Kd.int .i64) (w0 := w) w.heap.size rfl (.tmp 37) (.tmp 39) 22 3 (.int .i64 0) 8 rfl Tryz.underlying22 info3 rfl (by decide) (by omega) u7 x7_1 t390 [.int .i64 t390] (fun k_ => (w.heap.size ≤ k_)) (fun _ => False) rfl rfl ?aP (fun _ hk => hk.elim) ?aF ?aO ?aB ?aS ?aL ?_; (case aP => exact rfl); (case aB => exact bA); (case aF => exact (fun k_ hk => (Nat.le_trans (below_size bA) hk))); (case aO => exact (rD HO_7)); (case aS => exact (below_size bA)); (case aL => have := LMc10.out; omega); intro v394 w15 ho hb hg hat; rw [← Ny393.out] at ho; have HO395 := as_ (ho); replace HO_8 := as_ (Kd.R_over' (rD HO_8) (Kd.R_typed (rD HO_7)) (by decide) hg); replace HB := as_ (hb); clear HO_7; clear ho hb hg hat) | ((with_reducible refine gate_builtin (b := .append) (xs := #[.tmp 41, .tmp 45]) rfl ?_); at_builtin; refine Kd.R_append Kd.string (w0 := w) w.heap.size rfl (.tmp 41) (.tmp 45) 23 9 (.string ⟨#[]⟩) 16 rfl Tryz.underlying23 info9 rfl (by decide) (by omega) u8 x8_1 js12 [.string js12] (fun k_ => (w.heap.size ≤ k_)) (fun _ => False) rfl rfl ?aP (fun _ hk => hk.elim) ?aF ?aO ?aB ?aS ?aL ?_; (case aP => exact rfl); (case aB => exact bA); (case aF => exact (fun k_ hk => (Nat.le_trans (below_size bA) hk))); (case aO => exact (rD HO_8)); (case aS => exact (below_size bA)); (case aL => have := LMc13.out; omega); intro v397 w16 ho hb hg hat; rw [← Ny396.out] at ho; have HO398 := as_ (ho); replace HO395 := as_ (Kd.R_over' (rD HO395) (Kd.R_typed (rD HO_8)) (by decide) hg); replace HB := as_ (hb); clear HO_8; clear ho hb hg hat)); try go_wp2_with (first | (go_at_call 81; (with_reducible refine (cell_GetKid.calls k1 (rdOf ByteArray.empty l0 x16_1) t390 t391 t392 _ A6.out).mono ?_); rintro e w14 ⟨rfl, hb⟩; replace HO_7 := as_ (Kd.R_below (rD HO_7) hb); replace HO_8 := as_ (Kd.R_below (rD HO_8) hb); replace HB := as_ (below_step bA hb); (try clear hb); (try clear hi)) | ((with_reducible refine gate_builtin (b := .append) (xs := #[.tmp 37, .tmp 39]) rfl ?_); at_builtin; refine Kd.R_append (Kd.int .i64) (w0 := w) w.heap.size rfl (.tmp 37) (.tmp 39) 22 3 (.int .i64 0) 8 rfl Tryz.underlying22 info3 rfl (by decide) (by omega) u7 x7_1 t390 [.int .i64 t390] (fun k_ => (w.heap.size ≤ k_)) (fun _ => False) rfl rfl ?aP (fun _ hk => hk.elim) ?aF ?aO ?aB ?aS ?aL ?_; (case aP => exact rfl); (case aB => exact bA); (case aF => exact (fun k_ hk => (Nat.le_trans (below_size bA) hk))); (case aO => exact (rD HO_7)); (case aS => exact (below_size bA)); (case aL => have := LMc10.out; omega); intro v394 w15 ho hb hg hat; rw [← Ny393.out] at ho; have HO395 := as_ (ho); replace HO_8 := as_ (Kd.R_over' (rD HO_8) (Kd.R_typed (rD HO_7)) (by decide) hg); replace HB := as_ (hb); clear HO_7; clear ho hb hg hat) | ((with_reducible refine gate_builtin (b := .append) (xs := #[.tmp 41, .tmp 45]) rfl ?_); at_builtin; refine Kd.R_append Kd.string (w0 := w) w.heap.size rfl (.tmp 41) (.tmp 45) 23 9 (.string ⟨#[]⟩) 16 rfl Tryz.underlying23 info9 rfl (by decide) (by omega) u8 x8_1 js12 [.string js12] (fun k_ => (w.heap.size ≤ k_)) (fun _ => False) rfl rfl ?aP (fun _ hk => hk.elim) ?aF ?aO ?aB ?aS ?aL ?_; (case aP => exact rfl); (case aB => exact bA); (case aF => exact (fun k_ hk => (Nat.le_trans (below_size bA) hk))); (case aO => exact (rD HO_8)); (case aS => exact (below_size bA)); (case aL => have := LMc13.out; omega); intro v397 w16 ho hb hg hat; rw [← Ny396.out] at ho; have HO398 := as_ (ho); replace HO395 := as_ (Kd.R_over' (rD HO395) (Kd.R_typed (rD HO_8)) (by decide) hg); replace HB := as_ (hb); clear HO_8; clear ho hb hg hat)))
   go_roundg k1
   case measure => have := HK1.out; omega
   case rel => exact ⟨(y393), (y396), (wrap64 (x16_1 + 1)), (by first | rfl | (simp; done) | (simp [*]; done)), H', ⟨by have := HK1.out; omega⟩, ⟨by (with_reducible repeat (first | apply Kd.R_alloc | apply Kd.R_drewN | apply Kd.R_drew)); exact HO395.out⟩, ⟨by (with_reducible repeat (first | apply Kd.R_alloc | apply Kd.R_drewN | apply Kd.R_drew)); exact HO398.out⟩, ⟨bA⟩⟩
end Go.Proofs.YtafebmhmcdnhkaaGreat.P
