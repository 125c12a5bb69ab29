/- What is proved here: for functions of the Go text, a Lean function each, and that the call comes to just what it answers. Conditions: as each contract names them. Written by wip/tools/myprint.py, a driver of the print of the kit. -/
import Derived.Test.YtfialmegikegbaaP0
import Derived.Test.YtfialmegikegbaaP3
import Derived.Test.YtfialmegikegbaaWAbbr
namespace Go.Proofs.Ytfialmegikegbaa.P
open Go.RowKit Go.Proofs.YtfialmegikegbaaW.PrintWords Go.Proofs.YtfialmegikegbaaW.PrintLast Go.Proofs.YtfialmegikegbaaW.PrintMore Go.Proofs.YtfialmegikegbaaW.Abbr
-- PACKED
attribute [local go_sem] max2_int min2_int max_two min_two max_three min_three max_four min_four Go.Proofs.YtfialmegikegbaaLaws.str_leq Go.Proofs.YtfialmegikegbaaLaws.str_gtr Go.Proofs.YtfialmegikegbaaLaws.str_geq Go.Proofs.YtfialmegikegbaaLaws.max2_str Go.Proofs.YtfialmegikegbaaLaws.min2_str   -- for this text's walks alone
set_option linter.unusedVariables false
set_option linter.unusedSimpArgs false

/-! ### word_Four: function 59, by hand -/
def word_Four.f (a0 : Int) : Option (ByteArray) := some (strOfNums ([a0 % 256, (a0 / 256) % 256, (a0 / 65536) % 256, (a0 / 16777216) % 256] : List Int))
theorem four_index (W : World) (g : Nat) (i : Int) (n : Nat) (h : (i = 0 ∧ n = 0) ∨ (i = 1 ∧ n = 1) ∨ (i = 2 ∧ n = 2) ∨ (i = 3 ∧ n = 3)) : (Instr.indexAt 105 (.pointer (some ⟨g, 0, none⟩)) (.int .i64 i)).run Try.prog W = .ok (.pointer (some ⟨g, n, none⟩)) W := by
 have hu : Try.prog.underlying 105 = some (.array (Try.prog.arrayLen 105) (Try.prog.elem 105)) := by kernel_rfl
 have hl : Try.prog.arrayLen 105 = 4 := by kernel_rfl
 have he : Try.prog.elem 105 = 5 := by kernel_rfl
 obtain ⟨i0, hi, hz, hz1, _⟩ := info_parts (show (Try.prog.info? 5).map (fun i => (i.zero, i.size, i.bytes)) = some (some (.int .u8 0), 1, 1) by kernel_rfl)
 rw [run_indexAt_array (h := hu), hl, he]
 rcases h with ⟨rfl, rfl⟩ | ⟨rfl, rfl⟩ | ⟨rfl, rfl⟩ | ⟨rfl, rfl⟩ <;> simp [sizeOf, typeInfo, hi, hz1, Result.andThen, Addr.add]
theorem four_slice (W : World) (g : Nat) : (Instr.sliceAt 105 (.pointer (some ⟨g, 0, none⟩)) none none none).run Try.prog W = .ok (.slice (some ⟨g, 0, none⟩) 4 4) W := by
 have hu : Try.prog.underlying 105 = some (.array (Try.prog.arrayLen 105) (Try.prog.elem 105)) := by kernel_rfl
 have hl : Try.prog.arrayLen 105 = 4 := by kernel_rfl
 have he : Try.prog.elem 105 = 5 := by kernel_rfl
 obtain ⟨i0, hi, hz, hz1, _⟩ := info_parts (show (Try.prog.info? 5).map (fun i => (i.zero, i.size, i.bytes)) = some (some (.int .u8 0), 1, 1) by kernel_rfl)
 rw [run_sliceAt_array_all (ht := hu), hl, he]
 simp [sizeOf, typeInfo, hi, hz1, Result.andThen, slicedAt, Addr.add]
theorem four_string (W : World) (g : Nat) (x0 x1 x2 x3 : Int) (h : W.heap[g]? = some (.cells #[.int .u8 x0, .int .u8 x1, .int .u8 x2, .int .u8 x3] 105 (0, 0))) : (convert 58 9 (.slice (some ⟨g, 0, none⟩) 4 4)).run Try.prog W = .ok (.string (strOfNums [x0, x1, x2, x3])) W := by
 refine string_of_reads Try.underlying58 Try.underlying5 Try.underlying9 ?_
 refine ⟨rfl, by omega, fun _ => ⟨⟨g, 0, none⟩, rfl, fun j hj => ?_⟩⟩
 have e : (⟨g, 0, none⟩ : Addr).add j = ⟨g, j, none⟩ := by simp [Addr.add] <;> omega
 rw [e, blk_cell h j]
 match j, hj with
 | 0, _ => rfl
 | 1, _ => rfl
 | 2, _ => rfl
 | 3, _ => rfl
set_option maxHeartbeats 4000000 in
set_option maxRecDepth 100000 in
theorem word_Four.calls (a0 : Int) (r : ByteArray) (w : World) (h : word_Four.f a0 = some r) :
  Calls Try.prog 59 #[.int .u32 a0] w fun e w' => e = .returned (.string r) ∧ Below w.heap.size w w' := by
 have H := as_ (Option.some.inj h)
 clear h
 have HB := as_ (Below.refl w.heap.size w)
 go_enter Try.func59, Try.ntmps59
 go_wp2_with (first | ((with_reducible refine gate_dst (N := 3) rfl ?_); refine box_event (by rfl) (N := 3) (by rfl) (cs := #[.int .u8 0, .int .u8 0, .int .u8 0, .int .u8 0]) (t := 105) gS ?_; intro gb hg w1 hbox hb; have BK := Aside0.mk hbox; have GE := gw hg bA; replace HB := as_ (below_step bA hb); clear hb hbox hg))
 go_loopg [5] 5 (fun kq v5 w' => ∃ x5 : Int, v5 = .int .i64 x5 ∧ Aside0 ((x5 = 0 ∧ kq = 5 ∧ w'.heap[gb]? = some (.cells #[.int .u8 0, .int .u8 0, .int .u8 0, .int .u8 0] 105 (0, 0))) ∨ (x5 = 1 ∧ kq = 4 ∧ w'.heap[gb]? = some (.cells #[.int .u8 (a0 % 256), .int .u8 0, .int .u8 0, .int .u8 0] 105 (0, 0))) ∨ (x5 = 2 ∧ kq = 3 ∧ w'.heap[gb]? = some (.cells #[.int .u8 (a0 % 256), .int .u8 (a0 / 256 % 256), .int .u8 0, .int .u8 0] 105 (0, 0))) ∨ (x5 = 3 ∧ kq = 2 ∧ w'.heap[gb]? = some (.cells #[.int .u8 (a0 % 256), .int .u8 (a0 / 256 % 256), .int .u8 (a0 / 65536 % 256), .int .u8 0] 105 (0, 0))) ∨ (x5 = 4 ∧ kq = 1 ∧ w'.heap[gb]? = some (.cells #[.int .u8 (a0 % 256), .int .u8 (a0 / 256 % 256), .int .u8 (a0 / 65536 % 256), .int .u8 (a0 / 16777216 % 256)] 105 (0, 0)))) ∧ Aside0 (Below w.heap.size w w'))
 case atStart => exact ⟨0, rfl, ⟨.inl ⟨rfl, rfl, BK.out⟩⟩, ⟨HB.out⟩⟩
 case round =>
  obtain ⟨x5, rfl, HX, HB1⟩ := hrel
  clear HB BK
  have HB := HB1
  clear HB1
  rcases HX.out with ⟨rfl, rfl, hb⟩ | ⟨rfl, rfl, hb⟩ | ⟨rfl, rfl, hb⟩ | ⟨rfl, rfl, hb⟩ | ⟨rfl, rfl, hb⟩
  ·have BK := Aside0.mk hb
   clear hb HX
   have hix : ∀ W : World, (Instr.indexAt 105 (.pointer (some ⟨gb, 0, none⟩)) (.int .i64 0)).run Try.prog W = .ok (.pointer (some ⟨gb, 0, none⟩)) W := fun W => four_index W gb _ _ (by omega)
   have hc : wr.cell? ⟨gb, 0, none⟩ = some (.int .u8 0) := (blk_cell BK.out 0).trans rfl
   have hf := blk_frozen BK.out 0
   go_wp2
   go_roundg 4
   case measure => omega
   case rel => exact ⟨1, rfl, ⟨.inr (.inl ⟨rfl, rfl, by first | exact blk_put BK.out 0 _ rfl | (rw [four_shr0] at *; exact blk_put BK.out 0 _ rfl)⟩)⟩, ⟨by repeat (first | exact HB.out | apply below_alloc | apply pw_below_drewN | apply below_drew1 | refine below_set ?_ GE.out)⟩⟩
  ·have BK := Aside0.mk hb
   clear hb HX
   have hix : ∀ W : World, (Instr.indexAt 105 (.pointer (some ⟨gb, 0, none⟩)) (.int .i64 1)).run Try.prog W = .ok (.pointer (some ⟨gb, 1, none⟩)) W := fun W => four_index W gb _ _ (by omega)
   have hc : wr.cell? ⟨gb, 1, none⟩ = some (.int .u8 0) := (blk_cell BK.out 1).trans rfl
   have hf := blk_frozen BK.out 1
   go_wp2
   go_roundg 3
   case measure => omega
   case rel => exact ⟨2, rfl, ⟨.inr (.inr (.inl ⟨rfl, rfl, by first | exact blk_put BK.out 1 _ rfl | (rw [four_shr1] at *; exact blk_put BK.out 1 _ rfl)⟩))⟩, ⟨by repeat (first | exact HB.out | apply below_alloc | apply pw_below_drewN | apply below_drew1 | refine below_set ?_ GE.out)⟩⟩
  ·have BK := Aside0.mk hb
   clear hb HX
   have hix : ∀ W : World, (Instr.indexAt 105 (.pointer (some ⟨gb, 0, none⟩)) (.int .i64 2)).run Try.prog W = .ok (.pointer (some ⟨gb, 2, none⟩)) W := fun W => four_index W gb _ _ (by omega)
   have hc : wr.cell? ⟨gb, 2, none⟩ = some (.int .u8 0) := (blk_cell BK.out 2).trans rfl
   have hf := blk_frozen BK.out 2
   go_wp2
   go_roundg 2
   case measure => omega
   case rel => exact ⟨3, rfl, ⟨.inr (.inr (.inr (.inl ⟨rfl, rfl, by first | exact blk_put BK.out 2 _ rfl | (rw [four_shr2] at *; exact blk_put BK.out 2 _ rfl)⟩)))⟩, ⟨by repeat (first | exact HB.out | apply below_alloc | apply pw_below_drewN | apply below_drew1 | refine below_set ?_ GE.out)⟩⟩
  ·have BK := Aside0.mk hb
   clear hb HX
   have hix : ∀ W : World, (Instr.indexAt 105 (.pointer (some ⟨gb, 0, none⟩)) (.int .i64 3)).run Try.prog W = .ok (.pointer (some ⟨gb, 3, none⟩)) W := fun W => four_index W gb _ _ (by omega)
   have hc : wr.cell? ⟨gb, 3, none⟩ = some (.int .u8 0) := (blk_cell BK.out 3).trans rfl
   have hf := blk_frozen BK.out 3
   go_wp2
   go_roundg 1
   case measure => omega
   case rel => exact ⟨4, rfl, ⟨.inr (.inr (.inr (.inr (⟨rfl, rfl, by first | exact blk_put BK.out 3 _ rfl | (rw [four_shr3] at *; exact blk_put BK.out 3 _ rfl)⟩))))⟩, ⟨by repeat (first | exact HB.out | apply below_alloc | apply pw_below_drewN | apply below_drew1 | refine below_set ?_ GE.out)⟩⟩
  ·have BK := Aside0.mk hb
   clear hb HX
   have hsl := fun W => four_slice W gb
   have hst := four_string wr gb _ _ _ _ BK.out
   go_wp2
   go_ret
   exact ⟨by rw [← H.out]; rfl, by repeat (first | exact HB.out | apply below_alloc | apply pw_below_drewN | apply below_drew1 | refine below_set ?_ GE.out)⟩


/-! ### cell_page: function 66 -/
def cell_page.f (a0 : Int) : Option (Bool) := if a0 ≥ 1 then (some (decide (a0 < 4096))) else (some false)
set_option maxHeartbeats 8000000 in
set_option maxRecDepth 100000 in
theorem cell_page.calls (a0 : Int) (r : Bool) (w : World) (h : cell_page.f a0 = some r) :
  Calls Try.prog 66 #[.int .i64 a0] w fun e w' => e = .returned (.bool r) ∧ Drawn0 w w' := by
 have H : (if a0 ≥ 1 then (some (decide (a0 < 4096))) else (some false)) = some r := h
 clear h
 by_cases c2 : a0 ≥ 1
 ·rw [if_pos c2] at H
  have c2b0 : decide (1 ≤ a0) = true := decide_eq_true c2
  clear c2
  obtain rfl := Option.some.inj H
  go_enter Try.func66, Try.ntmps66
  go_wp2
  go_ret
  exact ⟨by first | rfl | (simp; done) | (simp [*]; done), by repeat (first | exact Drawn0.refl _ | apply Drawn0.step)⟩
 rw [if_neg c2] at H
 have c2b0 : decide (1 ≤ a0) = false := decide_eq_false c2
 clear c2
 obtain rfl := Option.some.inj H
 go_enter Try.func66, Try.ntmps66
 go_wp2
 go_ret
 exact ⟨by first | rfl | (simp; done) | (simp [*]; done), by repeat (first | exact Drawn0.refl _ | apply Drawn0.step)⟩

/-! ### word_Put: function 52 -/
mutual
def word_Put.j1 : Nat → Int → Int → Option (ByteArray)
 | 0, _, _ => none
 | k + 1, x0, x3 => word_Put.l1 k x0 x3 (([(wrap64 (247 + x3)) % 256] : List Int)) x3 0
def word_Put.l1 : Nat → Int → Int → List Int → Int → Int → Option (ByteArray)
 | 0, _, _, _, _, _ => none
 | k + 1, x0, x3, x4, x55, x56 => if x56 < x55 then (if 0 ≤ (wrap64 (8 * (wrap64 ((wrap64 (x3 - 1)) - x56)))) then (if x4.length < 140737488355328 then (word_Put.l1 k x0 x3 (x4 ++ [(shr .u64 x0 (wrap64 (8 * (wrap64 ((wrap64 (x3 - 1)) - x56))))) % 256]) x55 (wrap64 (x56 + 1))) else (none)) else (none)) else (some (strOfNums x4))
def word_Put.l0 : Nat → Int → Int → Option (ByteArray)
 | 0, _, _ => none
 | k + 1, x0, x3 => if x3 < 8 then (if 0 ≤ (wrap64 (8 * x3)) then (if (shr .u64 x0 (wrap64 (8 * x3))) > 0 then (word_Put.l0 k x0 (wrap64 (x3 + 1))) else (word_Put.j1 k x0 x3)) else (none)) else (word_Put.j1 k x0 x3)
end
def word_Put.f (k : Nat) (a0 : Int) : Option (ByteArray) := if a0 ≤ 240 then (some (strOfNums (([(a0) % 256] : List Int)))) else (if a0 ≤ 2287 then (some (strOfNums (([(IntKind.u64.wrap (241 + ((IntKind.u64.wrap (a0 - 240)) / 256))) % 256, (IntKind.u64.wrap (a0 - 240)) % 256] : List Int)))) else (if a0 ≤ 67823 then (some (strOfNums (([249, ((IntKind.u64.wrap ((IntKind.u64.wrap (a0 - 2287)) - 1)) / 256) % 256, (IntKind.u64.wrap ((IntKind.u64.wrap (a0 - 2287)) - 1)) % 256] : List Int)))) else (word_Put.l0 k a0 3)))
theorem word_Put.mono_l : ∀ k, (∀ y0 y1, LeO (word_Put.j1 k y0 y1) (word_Put.j1 (k + 1) y0 y1)) ∧ (∀ y0 y1 y2 y3 y4, LeO (word_Put.l1 k y0 y1 y2 y3 y4) (word_Put.l1 (k + 1) y0 y1 y2 y3 y4)) ∧ (∀ y0 y1, LeO (word_Put.l0 k y0 y1) (word_Put.l0 (k + 1) y0 y1))
 | 0 => ⟨fun _ _ r h => by simp [word_Put.j1] at h, fun _ _ _ _ _ r h => by simp [word_Put.l1] at h, fun _ _ r h => by simp [word_Put.l0] at h⟩
 | k + 1 => by
  obtain ⟨ih0, ih1, ih2⟩ := word_Put.mono_l k
  refine ⟨?_, ?_, ?_⟩
  ·intro y0 y1
   unfold word_Put.j1
   repeat' first
   | (with_reducible exact ih0 _ _)
   | (with_reducible exact ih1 _ _ _ _ _)
   | (with_reducible exact ih2 _ _)
   | (with_reducible exact LeO.refl _)
   | (with_reducible exact LeO.none _)
   | (with_reducible refine LeO.ite ?_ ?_)
   | (with_reducible refine LeO.bind ?_ (fun _ => ?_))
   | exact ih0 _ _
   | exact ih1 _ _ _ _ _
   | exact ih2 _ _
   | exact LeO.none _
   | refine LeO.ite ?_ ?_
   | refine LeO.bind ?_ (fun _ => ?_)
  ·intro y0 y1 y2 y3 y4
   unfold word_Put.l1
   repeat' first
   | (with_reducible exact ih0 _ _)
   | (with_reducible exact ih1 _ _ _ _ _)
   | (with_reducible exact ih2 _ _)
   | (with_reducible exact LeO.refl _)
   | (with_reducible exact LeO.none _)
   | (with_reducible refine LeO.ite ?_ ?_)
   | (with_reducible refine LeO.bind ?_ (fun _ => ?_))
   | exact ih0 _ _
   | exact ih1 _ _ _ _ _
   | exact ih2 _ _
   | exact LeO.none _
   | refine LeO.ite ?_ ?_
   | refine LeO.bind ?_ (fun _ => ?_)
  ·intro y0 y1
   unfold word_Put.l0
   repeat' first
   | (with_reducible exact ih0 _ _)
   | (with_reducible exact ih1 _ _ _ _ _)
   | (with_reducible exact ih2 _ _)
   | (with_reducible exact LeO.refl _)
   | (with_reducible exact LeO.none _)
   | (with_reducible refine LeO.ite ?_ ?_)
   | (with_reducible refine LeO.bind ?_ (fun _ => ?_))
   | exact ih0 _ _
   | exact ih1 _ _ _ _ _
   | exact ih2 _ _
   | exact LeO.none _
   | refine LeO.ite ?_ ?_
   | refine LeO.bind ?_ (fun _ => ?_)
theorem word_Put.mono : ∀ a0 k, LeO (word_Put.f k a0) (word_Put.f (k + 1) a0) := by
 intro a0 k
 obtain ⟨ih0, ih1, ih2⟩ := word_Put.mono_l k
 unfold word_Put.f
 repeat' first
   | (with_reducible exact ih0 _ _)
   | (with_reducible exact ih1 _ _ _ _ _)
   | (with_reducible exact ih2 _ _)
   | (with_reducible exact LeO.refl _)
   | (with_reducible exact LeO.none _)
   | (with_reducible refine LeO.ite ?_ ?_)
   | (with_reducible refine LeO.bind ?_ (fun _ => ?_))
   | exact ih0 _ _
   | exact ih1 _ _ _ _ _
   | exact ih2 _ _
   | exact LeO.none _
   | refine LeO.ite ?_ ?_
   | refine LeO.bind ?_ (fun _ => ?_)
set_option maxHeartbeats 8000000 in
set_option maxRecDepth 100000 in
theorem word_Put.calls (k : Nat) (a0 : Int) (r : ByteArray) (w : World) (h : word_Put.f k a0 = some r) :
  Calls Try.prog 52 #[.int .u64 a0] w fun e w' => e = .returned (.string r) ∧ Below w.heap.size w w' := by
 have HB := as_ (Below.refl w.heap.size w)
 have H : (if a0 ≤ 240 then (some (strOfNums (([(a0) % 256] : List Int)))) else (if a0 ≤ 2287 then (some (strOfNums (([(IntKind.u64.wrap (241 + ((IntKind.u64.wrap (a0 - 240)) / 256))) % 256, (IntKind.u64.wrap (a0 - 240)) % 256] : List Int)))) else (if a0 ≤ 67823 then (some (strOfNums (([249, ((IntKind.u64.wrap ((IntKind.u64.wrap (a0 - 2287)) - 1)) / 256) % 256, (IntKind.u64.wrap ((IntKind.u64.wrap (a0 - 2287)) - 1)) % 256] : List Int)))) else (word_Put.l0 k a0 3)))) = some r := h
 clear h
 by_cases c2 : a0 ≤ 240
 ·rw [if_pos c2] at H
  have c2b0 : decide (a0 ≤ 240) = true := decide_eq_true c2
  clear c2
  obtain ⟨y259, hy259⟩ : ∃ y_ : List Int, y_ = (([(a0) % 256] : List Int)) := ⟨_, rfl⟩
  replace H : (some (strOfNums y259)) = some r := by first | (rw [hy259]; with_reducible exact H) | (have H2_ := (Option.bind_some _ _).symm.trans H; rw [hy259]; with_reducible exact H2_) | (have H2_ := (Option.bind_some _ _).symm.trans H; with_reducible exact H2_) | with_reducible exact H | (rw [hy259]; exact H) | exact H
  have Ny259 := Aside0.mk hy259
  clear hy259
  obtain rfl := Option.some.inj H
  go_enter Try.func52, Try.ntmps52
  go_wp2_with (first | ((with_reducible refine gate_dst (N := 11) rfl ?_); refine Kd.R_lit (Kd.int .u8) _ 5 ?hg (N := 11) ?hd (xs := ([(a0) % 256] : List Int)) (inner := [.int .u8 ((a0) % 256)]) (ok := fun _ => True) (okp := fun _ => True) ?hr ?hp (fun _ hk => hk) trivial (Below.refl _ _) (Nat.le_refl _) (by simp) ?_; (case hd => rfl); (case hg => rfl); (case hr => first | (go_simp; done) | (go_simp; rfl)); (case hp => exact (Reps.one (show Kd.M (Kd.int .u8) _ _ _ ((a0) % 256) [.int .u8 ((a0) % 256)] from rfl) (Reps.none _ _))); intro v260 w3 ho4 hb hg_ hnew_; clear hg_ hnew_; (first | rw [← Ny259.out] at ho4 | (simp only [Int.reduceToNat] at ho4; rw [← Ny259.out] at ho4)); have HO261 := as_ (Kd.R_lower ho4 (below_size bA)); replace HB := as_ (below_step bA hb); clear hb ho4; have hcv5 := own_string (P := Try.prog) Try.underlying58 Try.underlying5 Try.underlying9 (Kd.own_of_R HO261.out)))
  go_ret
  exact ⟨eW, by repeat (first | (with_reducible first | exact HB.out | apply below_alloc | apply pw_below_drewN | apply below_drew1) | exact HB.out)⟩
 rw [if_neg c2] at H
 have c2b0 : decide (a0 ≤ 240) = false := decide_eq_false c2
 clear c2
 by_cases c6 : a0 ≤ 2287
 ·rw [if_pos c6] at H
  have c6b0 : decide (a0 ≤ 2287) = true := decide_eq_true c6
  clear c6
  obtain ⟨y262, hy262⟩ : ∃ y_ : List Int, y_ = (([(IntKind.u64.wrap (241 + ((IntKind.u64.wrap (a0 - 240)) / 256))) % 256, (IntKind.u64.wrap (a0 - 240)) % 256] : List Int)) := ⟨_, rfl⟩
  replace H : (some (strOfNums y262)) = some r := by first | (rw [hy262]; with_reducible exact H) | (have H2_ := (Option.bind_some _ _).symm.trans H; rw [hy262]; with_reducible exact H2_) | (have H2_ := (Option.bind_some _ _).symm.trans H; with_reducible exact H2_) | with_reducible exact H | (rw [hy262]; exact H) | exact H
  have Ny262 := Aside0.mk hy262
  clear hy262
  obtain rfl := Option.some.inj H
  go_enter Try.func52, Try.ntmps52
  go_wp2_with (first | ((with_reducible refine gate_dst (N := 24) rfl ?_); refine Kd.R_lit (Kd.int .u8) _ 5 ?hg (N := 24) ?hd (xs := ([(IntKind.u64.wrap (241 + ((IntKind.u64.wrap (a0 - 240)) / 256))) % 256, (IntKind.u64.wrap (a0 - 240)) % 256] : List Int)) (inner := [.int .u8 ((IntKind.u64.wrap (241 + ((IntKind.u64.wrap (a0 - 240)) / 256))) % 256), .int .u8 ((IntKind.u64.wrap (a0 - 240)) % 256)]) (ok := fun _ => True) (okp := fun _ => True) ?hr ?hp (fun _ hk => hk) trivial (Below.refl _ _) (Nat.le_refl _) (by simp) ?_; (case hd => rfl); (case hg => rfl); (case hr => first | (go_simp; done) | (go_simp; rfl)); (case hp => exact (Reps.one (show Kd.M (Kd.int .u8) _ _ _ ((IntKind.u64.wrap (241 + ((IntKind.u64.wrap (a0 - 240)) / 256))) % 256) [.int .u8 ((IntKind.u64.wrap (241 + ((IntKind.u64.wrap (a0 - 240)) / 256))) % 256)] from rfl) (Reps.one (show Kd.M (Kd.int .u8) _ _ _ ((IntKind.u64.wrap (a0 - 240)) % 256) [.int .u8 ((IntKind.u64.wrap (a0 - 240)) % 256)] from rfl) (Reps.none _ _)))); intro v263 w7 ho8 hb hg_ hnew_; clear hg_ hnew_; (first | rw [← Ny262.out] at ho8 | (simp only [Int.reduceToNat] at ho8; rw [← Ny262.out] at ho8)); have HO264 := as_ (Kd.R_lower ho8 (below_size bA)); replace HB := as_ (below_step bA hb); clear hb ho8; have hcv9 := own_string (P := Try.prog) Try.underlying58 Try.underlying5 Try.underlying9 (Kd.own_of_R HO264.out)))
  go_ret
  exact ⟨eW, by repeat (first | (with_reducible first | exact HB.out | apply below_alloc | apply pw_below_drewN | apply below_drew1) | exact HB.out)⟩
 rw [if_neg c6] at H
 have c6b0 : decide (a0 ≤ 2287) = false := decide_eq_false c6
 clear c6
 by_cases c10 : a0 ≤ 67823
 ·rw [if_pos c10] at H
  have c10b0 : decide (a0 ≤ 67823) = true := decide_eq_true c10
  clear c10
  obtain ⟨y265, hy265⟩ : ∃ y_ : List Int, y_ = (([249, ((IntKind.u64.wrap ((IntKind.u64.wrap (a0 - 2287)) - 1)) / 256) % 256, (IntKind.u64.wrap ((IntKind.u64.wrap (a0 - 2287)) - 1)) % 256] : List Int)) := ⟨_, rfl⟩
  replace H : (some (strOfNums y265)) = some r := by first | (rw [hy265]; with_reducible exact H) | (have H2_ := (Option.bind_some _ _).symm.trans H; rw [hy265]; with_reducible exact H2_) | (have H2_ := (Option.bind_some _ _).symm.trans H; with_reducible exact H2_) | with_reducible exact H | (rw [hy265]; exact H) | exact H
  have Ny265 := Aside0.mk hy265
  clear hy265
  obtain rfl := Option.some.inj H
  go_enter Try.func52, Try.ntmps52
  go_wp2_with (first | ((with_reducible refine gate_dst (N := 38) rfl ?_); refine Kd.R_lit (Kd.int .u8) _ 5 ?hg (N := 38) ?hd (xs := ([249, ((IntKind.u64.wrap ((IntKind.u64.wrap (a0 - 2287)) - 1)) / 256) % 256, (IntKind.u64.wrap ((IntKind.u64.wrap (a0 - 2287)) - 1)) % 256] : List Int)) (inner := [.int .u8 249, .int .u8 (((IntKind.u64.wrap ((IntKind.u64.wrap (a0 - 2287)) - 1)) / 256) % 256), .int .u8 ((IntKind.u64.wrap ((IntKind.u64.wrap (a0 - 2287)) - 1)) % 256)]) (ok := fun _ => True) (okp := fun _ => True) ?hr ?hp (fun _ hk => hk) trivial (Below.refl _ _) (Nat.le_refl _) (by simp) ?_; (case hd => rfl); (case hg => rfl); (case hr => first | (go_simp; done) | (go_simp; rfl)); (case hp => exact (Reps.one (show Kd.M (Kd.int .u8) _ _ _ 249 [.int .u8 249] from rfl) (Reps.one (show Kd.M (Kd.int .u8) _ _ _ (((IntKind.u64.wrap ((IntKind.u64.wrap (a0 - 2287)) - 1)) / 256) % 256) [.int .u8 (((IntKind.u64.wrap ((IntKind.u64.wrap (a0 - 2287)) - 1)) / 256) % 256)] from rfl) (Reps.one (show Kd.M (Kd.int .u8) _ _ _ ((IntKind.u64.wrap ((IntKind.u64.wrap (a0 - 2287)) - 1)) % 256) [.int .u8 ((IntKind.u64.wrap ((IntKind.u64.wrap (a0 - 2287)) - 1)) % 256)] from rfl) (Reps.none _ _))))); intro v266 w11 ho12 hb hg_ hnew_; clear hg_ hnew_; (first | rw [← Ny265.out] at ho12 | (simp only [Int.reduceToNat] at ho12; rw [← Ny265.out] at ho12)); have HO267 := as_ (Kd.R_lower ho12 (below_size bA)); replace HB := as_ (below_step bA hb); clear hb ho12; have hcv13 := own_string (P := Try.prog) Try.underlying58 Try.underlying5 Try.underlying9 (Kd.own_of_R HO267.out)))
  go_ret
  exact ⟨eW, by repeat (first | (with_reducible first | exact HB.out | apply below_alloc | apply pw_below_drewN | apply below_drew1) | exact HB.out)⟩
 rw [if_neg c10] at H
 have c10b0 : decide (a0 ≤ 67823) = false := decide_eq_false c10
 clear c10
 have HC14 := Aside0.mk H
 clear H
 go_enter Try.func52, Try.ntmps52
 go_upto_block 1 with (fail)
 go_cut [3] (fun v3 wc => ∃ (kq : Nat) (x3_13 : Int), v3 = .int .i64 x3_13 ∧ Aside0 (word_Put.j1 kq a0 x3_13 = some r) ∧ Aside0 (kq ≤ k) ∧ Aside0 (Below w.heap.size w wc))
 case first =>
  have H := HC14.out
  clear HC14
  have H' := Aside0.mk H
  clear H
  go_wp2
  go_loopg [3] k (fun kq v3 w' => ∃ (x3_1 : Int), v3 = .int .i64 x3_1 ∧ Aside0 (word_Put.l0 kq a0 x3_1 = some r) ∧ Aside0 (kq ≤ k) ∧ Aside0 (Below w.heap.size w w'))
  case atStart => exact ⟨(3), (by first | rfl | (simp; done) | (simp [*]; done)), H', ⟨Nat.le_refl _⟩, ⟨by repeat (first | (with_reducible first | exact HB.out | apply below_alloc | apply pw_below_drewN | apply below_drew1) | exact HB.out)⟩⟩
  case round =>
   clear H'
   try clear c1
   try clear hcv1
   try clear c2
   try clear c2b0
   try clear p2
   try clear c5
   try clear hcv5
   try clear c6
   try clear c6b0
   try clear hcv9
   try clear c10
   try clear c10b0
   try clear hcv13
   obtain ⟨x3_1, rfl, HA, HK1, HB⟩ := hrel
   cases gk with
   | zero => exact absurd HA.out (by simp [word_Put.l0])
   | succ k1 =>
    have H := HA.out
    clear HA
    simp only [word_Put.l0] at H
    by_cases c15 : x3_1 < 8
    rotate_left
    ·rw [if_neg c15] at H
     have c15b0 : decide (x3_1 < 8) = false := decide_eq_false c15
     clear c15
     (first | rw [c15b0] | (simp only [i64_w, i32_w]; rw [c15b0]) | rw [c15b1] | skip)
     have H' := Aside0.mk H
     clear H
     go_wp2
     go_meet
     case rel => exact ⟨_, (x3_1), (by first | rfl | (simp; done) | (simp [*]; done)), H', ⟨by have := HK1.out; first | omega | exact Nat.le_refl _⟩, ⟨by repeat (first | (with_reducible first | exact HB.out | apply below_alloc | apply pw_below_drewN | apply below_drew1) | exact HB.out)⟩⟩
    rw [if_pos c15] at H
    have c15b0 : decide (x3_1 < 8) = true := decide_eq_true c15
    clear c15
    (first | rw [c15b0] | (simp only [i64_w, i32_w]; rw [c15b0]) | rw [c15b1] | skip)
    obtain ⟨ji16, hji16⟩ : ∃ j_ : Int, (wrap64 (8 * x3_1)) = j_ := ⟨_, rfl⟩
    replace H : (if 0 ≤ (ji16) then (if (shr .u64 a0 (ji16)) > 0 then (word_Put.l0 k1 a0 (wrap64 (x3_1 + 1))) else (word_Put.j1 k1 a0 x3_1)) else (none)) = some r := by first | (rw [hji16] at H; exact H) | (simp only [hji16] at H ⊢; exact H)
    have hji16w : (IntKind.i64.wrap (8 * x3_1)) = ji16 := (i64_w _).trans hji16
    by_cases c17 : 0 ≤ (ji16)
    rotate_left
    ·rw [if_neg c17] at H
     exact absurd H (by simp)
    rw [if_pos c17] at H
    have c17b0 := eq_true c17
    have c17b1 : decide (0 ≤ (ji16)) = true := decide_eq_true c17
    clear c17
    obtain ⟨ji18, hji18⟩ : ∃ j_ : Int, (shr .u64 a0 (ji16)) = j_ := ⟨_, rfl⟩
    replace H : (if (ji18) > 0 then (word_Put.l0 k1 a0 (wrap64 (x3_1 + 1))) else (word_Put.j1 k1 a0 x3_1)) = some r := by first | (rw [hji18] at H; exact H) | (simp only [hji18] at H ⊢; exact H)
    have hji18_ : (a0 / 2 ^ min (ji16).toNat 64) = ji18 := hji18
    have hji18z : (ji16) ≤ 64 → (a0 / 2 ^ (ji16).toNat) = ji18 := shr_small hji18
    by_cases c19 : (ji18) > 0
    rotate_left
    ·rw [if_neg c19] at H
     have c19b0 : decide (0 < (ji18)) = false := decide_eq_false c19
     clear c19
     have H' := Aside0.mk H
     clear H
     go_wp2
     go_meet
     case rel => exact ⟨_, (x3_1), (by first | rfl | (simp; done) | (simp [*]; done)), H', ⟨by have := HK1.out; first | omega | exact Nat.le_refl _⟩, ⟨by repeat (first | (with_reducible first | exact HB.out | apply below_alloc | apply pw_below_drewN | apply below_drew1) | exact HB.out)⟩⟩
    rw [if_pos c19] at H
    have c19b0 : decide (0 < (ji18)) = true := decide_eq_true c19
    clear c19
    have H' := Aside0.mk H
    clear H
    go_wp2
    go_roundg k1
    case measure => have := HK1.out; omega
    case rel => exact ⟨(wrap64 (x3_1 + 1)), (by first | rfl | (simp; done) | (simp [*]; done)), H', ⟨by have := HK1.out; omega⟩, ⟨by repeat (first | (with_reducible first | exact HB.out | apply below_alloc | apply pw_below_drewN | apply below_drew1) | exact HB.out)⟩⟩
 case rest =>
  clear HC14
  try clear c1
  try clear hcv1
  try clear c2
  try clear c2b0
  try clear p2
  try clear c5
  try clear hcv5
  try clear c6
  try clear c6b0
  try clear p6
  try clear hcv9
  try clear c10
  try clear c10b0
  try clear hcv13
  try clear c15
  try clear c15b0
  try clear c15b1
  try clear c17
  try clear c17b0
  try clear c17b1
  try clear c19
  try clear c19b0
  try clear p2
  obtain ⟨kq, x3_13, rfl, HA, HJ13, HB⟩ := hcut
  cases kq with
  | zero => exact absurd HA.out (by simp [word_Put.j1])
  | succ kj13 =>
   have H := HA.out
   clear HA
   simp only [word_Put.j1] at H
   obtain ⟨y268, hy268⟩ : ∃ y_ : List Int, y_ = (([(wrap64 (247 + x3_13)) % 256] : List Int)) := ⟨_, rfl⟩
   replace H : (word_Put.l1 kj13 a0 x3_13 y268 x3_13 0) = some r := by first | (rw [hy268]; with_reducible exact H) | (have H2_ := (Option.bind_some _ _).symm.trans H; rw [hy268]; with_reducible exact H2_) | (have H2_ := (Option.bind_some _ _).symm.trans H; with_reducible exact H2_) | with_reducible exact H | (rw [hy268]; exact H) | exact H
   have Ny268 := Aside0.mk hy268
   clear hy268
   have H' := Aside0.mk H
   clear H
   go_wp2_with (first | ((with_reducible refine gate_dst (N := 54) rfl ?_); refine Kd.R_lit (Kd.int .u8) _ 5 ?hg (N := 54) ?hd (xs := ([(wrap64 (247 + x3_13)) % 256] : List Int)) (inner := [.int .u8 ((wrap64 (247 + x3_13)) % 256)]) (ok := fun _ => True) (okp := fun _ => True) ?hr ?hp (fun _ hk => hk) trivial (Below.refl _ _) (Nat.le_refl _) (by simp) ?_; (case hd => rfl); (case hg => rfl); (case hr => first | (go_simp; done) | (go_simp; rfl)); (case hp => exact (Reps.one (show Kd.M (Kd.int .u8) _ _ _ ((wrap64 (247 + x3_13)) % 256) [.int .u8 ((wrap64 (247 + x3_13)) % 256)] from rfl) (Reps.none _ _))); intro v269 w20 ho21 hb hg_ hnew_; clear hg_ hnew_; (first | rw [← Ny268.out] at ho21 | (simp only [Int.reduceToNat] at ho21; rw [← Ny268.out] at ho21)); have HO270 := as_ (Kd.R_lower ho21 (below_size bA)); replace HB := as_ (below_step bA hb); clear hb ho21))
   go_loopg [4, 56] kj13 (fun kq v4 v56 w' => ∃ (x4_2 : List Int) (x56_2 : Int), v56 = .int .i64 x56_2 ∧ Aside0 (word_Put.l1 kq a0 x3_13 x4_2 x3_13 x56_2 = some r) ∧ Aside0 (kq ≤ kj13) ∧ Aside0 (Kd.R (Kd.int .u8) 5 w' w.heap.size (fun _ => True) v4 x4_2) ∧ Aside0 (Below w.heap.size w w'))
   case atStart => exact ⟨(y268), (0), (by first | rfl | (simp; done) | (simp [*]; done)), H', ⟨Nat.le_refl _⟩, ⟨by (with_reducible repeat (first | apply Kd.R_alloc | apply Kd.R_drewN | apply Kd.R_drew)); exact HO270.out⟩, ⟨by repeat (first | (with_reducible first | exact HB.out | apply below_alloc | apply pw_below_drewN | apply below_drew1) | exact HB.out)⟩⟩
   case round =>
    clear H'
    try clear c1
    try clear hcv1
    try clear c2
    try clear c2b0
    try clear p2
    try clear c5
    try clear hcv5
    try clear c6
    try clear c6b0
    try clear p6
    try clear hcv9
    try clear c10
    try clear c10b0
    try clear hcv13
    try clear c15
    try clear c15b0
    try clear c15b1
    try clear c17
    try clear c17b0
    try clear c17b1
    try clear c19
    try clear c19b0
    try clear p2
    try clear p6
    obtain ⟨x4_2, x56_2, rfl, HA, HK2, HO_4, HB⟩ := hrel
    cases gk with
    | zero => exact absurd HA.out (by simp [word_Put.l1])
    | succ k2 =>
     have H := HA.out
     clear HA
     simp only [word_Put.l1] at H
     by_cases c22 : x56_2 < x3_13
     rotate_left
     ·rw [if_neg c22] at H
      have c22b0 : decide (x56_2 < x3_13) = false := decide_eq_false c22
      clear c22
      obtain rfl := Option.some.inj H
      have hcv28 := own_string (P := Try.prog) Try.underlying58 Try.underlying5 Try.underlying9 (Kd.own_of_R HO_4.out)
      go_wp2
      go_ret
      exact ⟨eW, by repeat (first | (with_reducible first | exact HB.out | apply below_alloc | apply pw_below_drewN | apply below_drew1) | exact HB.out)⟩
 
     rw [if_pos c22] at H
     have c22b0 : decide (x56_2 < x3_13) = true := decide_eq_true c22
     clear c22
     obtain ⟨ji23, hji23⟩ : ∃ j_ : Int, (wrap64 (8 * (wrap64 ((wrap64 (x3_13 - 1)) - x56_2)))) = j_ := ⟨_, rfl⟩
     replace H : (if 0 ≤ (ji23) then (if x4_2.length < 140737488355328 then (word_Put.l1 k2 a0 x3_13 (x4_2 ++ [(shr .u64 a0 (ji23)) % 256]) x3_13 (wrap64 (x56_2 + 1))) else (none)) else (none)) = some r := by first | (rw [hji23] at H; exact H) | (simp only [hji23] at H ⊢; exact H)
     have hji23w : (IntKind.i64.wrap (8 * (wrap64 ((wrap64 (x3_13 - 1)) - x56_2)))) = ji23 := (i64_w _).trans hji23
     by_cases c24 : 0 ≤ (ji23)
     rotate_left
     ·rw [if_neg c24] at H
      exact absurd H (by simp)
     rw [if_pos c24] at H
     have c24b0 := eq_true c24
     have c24b1 : decide (0 ≤ (ji23)) = true := decide_eq_true c24
     clear c24
     obtain ⟨ji25, hji25⟩ : ∃ j_ : Int, (shr .u64 a0 (ji23)) = j_ := ⟨_, rfl⟩
     replace H : (if x4_2.length < 140737488355328 then (word_Put.l1 k2 a0 x3_13 (x4_2 ++ [(ji25) % 256]) x3_13 (wrap64 (x56_2 + 1))) else (none)) = some r := by first | (rw [hji25] at H; exact H) | (simp only [hji25] at H ⊢; exact H)
     have hji25_ : (a0 / 2 ^ min (ji23).toNat 64) = ji25 := hji25
     have hji25z : (ji23) ≤ 64 → (a0 / 2 ^ (ji23).toNat) = ji25 := shr_small hji25
     by_cases c26 : x4_2.length < 140737488355328
     rotate_left
     ·rw [if_neg c26] at H
      exact absurd H (by simp)
     rw [if_pos c26] at H
     have LMc26 := Aside0.mk c26
     clear c26
     obtain ⟨y271, hy271⟩ : ∃ y_ : List Int, y_ = (x4_2 ++ [(ji25) % 256]) := ⟨_, rfl⟩
     replace H : (word_Put.l1 k2 a0 x3_13 y271 x3_13 (wrap64 (x56_2 + 1))) = some r := by first | (rw [hy271]; with_reducible exact H) | (have H2_ := (Option.bind_some _ _).symm.trans H; rw [hy271]; with_reducible exact H2_) | (have H2_ := (Option.bind_some _ _).symm.trans H; with_reducible exact H2_) | with_reducible exact H | (rw [hy271]; exact H) | exact H
     have Ny271 := Aside0.mk hy271
     clear hy271
     have H' := Aside0.mk H
     clear H
     go_wp2_with (first | ((with_reducible refine gate_builtin (b := .append) (xs := #[.tmp 59, .tmp 68]) rfl ?_); at_builtin; refine Kd.R_append (Kd.int .u8) (w0 := w) w.heap.size rfl (.tmp 59) (.tmp 68) 58 5 (.int .u8 0) 1 rfl Try.underlying58 info5 rfl (by decide) (by omega) u4 x4_2 ((ji25) % 256) [.int .u8 ((ji25) % 256)] (fun _ => True) (fun _ => False) rfl rfl ?aP (fun _ hk => hk.elim) ?aF ?aO ?aB ?aS ?aL ?_; (case aP => exact rfl); (case aB => exact bA); (case aF => exact (fun _ _ => trivial)); (case aO => exact (by (with_reducible repeat (first | apply Kd.R_alloc | apply Kd.R_drewN | apply Kd.R_drew)); exact HO_4.out)); (case aS => exact (below_size bA)); (case aL => have := LMc26.out; omega); intro v272 w27 ho hb hg hat; rw [← Ny271.out] at ho; have HO273 := as_ (ho); replace HB := as_ (hb); clear HO_4; clear ho hb hg hat))
     go_roundg k2
     case measure => have := HJ13.out; have := HK2.out; omega
     case rel => exact ⟨(y271), (wrap64 (x56_2 + 1)), (by first | rfl | (simp; done) | (simp [*]; done)), H', ⟨by have := HJ13.out; have := HK2.out; omega⟩, ⟨by (with_reducible repeat (first | apply Kd.R_alloc | apply Kd.R_drewN | apply Kd.R_drew)); exact HO273.out⟩, ⟨by repeat (first | (with_reducible first | exact HB.out | apply below_alloc | apply pw_below_drewN | apply below_drew1) | exact HB.out)⟩⟩
/-! ### cell_text: function 67 -/
def cell_text.f (k : Nat) (a0 : ByteArray) : Option (ByteArray) := (word_Put.f k (IntKind.u64.wrap ((a0.size : Int)))).bind fun t274 => (if t274.size + a0.size ≤ 9223372036854775807 then (some (t274 ++ a0)) else (none))
theorem cell_text.mono : ∀ a0 k, LeO (cell_text.f k a0) (cell_text.f (k + 1) a0) := by
 intro a0 k
 unfold cell_text.f
 repeat' first
   | (with_reducible exact word_Put.mono _ _)
   | (with_reducible exact LeO.refl _)
   | (with_reducible exact LeO.none _)
   | (with_reducible refine LeO.ite ?_ ?_)
   | (with_reducible refine LeO.bind ?_ (fun _ => ?_))
   | exact word_Put.mono _ _
   | exact LeO.none _
   | refine LeO.ite ?_ ?_
   | refine LeO.bind ?_ (fun _ => ?_)
set_option maxHeartbeats 8000000 in
set_option maxRecDepth 100000 in
theorem cell_text.calls (k : Nat) (a0 : ByteArray) (r : ByteArray) (w : World) (h : cell_text.f k a0 = some r) :
  Calls Try.prog 67 #[.string a0] w fun e w' => e = .returned (.string r) ∧ Below w.heap.size w w' := by
 have HB := as_ (Below.refl w.heap.size w)
 have H : ((word_Put.f k (IntKind.u64.wrap ((a0.size : Int)))).bind fun t274 => (if t274.size + a0.size ≤ 9223372036854775807 then (some (t274 ++ a0)) else (none))) = some r := h
 clear h
 replace H := bM H
 obtain ⟨t274, A20, H⟩ := H
 replace H : (if t274.size + a0.size ≤ 9223372036854775807 then (some (t274 ++ a0)) else (none)) = some r := H
 have A2 := Aside0.mk A20
 clear A20
 by_cases c3 : t274.size + a0.size ≤ 9223372036854775807
 rotate_left
 ·rw [if_neg c3] at H
  exact absurd H (by simp)
 
 rw [if_pos c3] at H
 have c3b0 := eq_true c3
 have c3b1 : decide (t274.size + a0.size ≤ 9223372036854775807) = true := decide_eq_true c3
 try have c3b2 : (9223372036854775807 < t274.size + a0.size) = False := eq_false (Nat.not_lt.2 c3)
 obtain ⟨js4, hjs4⟩ : ∃ j_ : ByteArray, (t274 ++ a0) = j_ := ⟨_, rfl⟩
 replace H : (some js4) = some r := by first | (rw [hjs4] at H; exact H) | (simp only [hjs4] at H ⊢; exact H)
 (try rw [hjs4] at A2)
 obtain rfl := Option.some.inj H
 go_enter Try.func67, Try.ntmps67
 go_wp2_with (first | ((with_reducible refine gate_callee (f := 52) rfl ?_); refine goesL_ (some 6) rfl rfl Try.func52 (by kernel_rfl) rfl #[.int .u64 (IntKind.u64.wrap ((a0.size : Int)))] rfl aO ?_; (with_reducible refine (word_Put.calls k (IntKind.u64.wrap ((a0.size : Int))) t274 _ A2.out).mono ?_); rintro e w5 ⟨rfl, hb⟩; refine ⟨_, rfl, ?_⟩; replace HB := as_ (below_step bA hb); (try clear hb); (try clear hb2); (try clear hk); (try clear hi)) | ((with_reducible refine gate_callee (f := 52) rfl ?_); refine goesL_ (some 6) rfl rfl Try.func52 (by kernel_rfl) rfl #[.int .u64 ((a0.size : Int))] rfl aO ?_; (with_reducible refine (word_Put.calls k ((a0.size : Int)) t274 _ (by have e_ := A2.out; rwa [(u64_id (by omega) (by omega) : IntKind.u64.wrap ((a0.size : Int)) = ((a0.size : Int)))] at e_)).mono ?_); rintro e w5 ⟨rfl, hb⟩; refine ⟨_, rfl, ?_⟩; replace HB := as_ (below_step bA hb); (try clear hb); (try clear hb2); (try clear hk); (try clear hi)))
 go_ret
 exact ⟨by first | rfl | (simp [errW_none, errW_some] <;> rfl) | (simp only [← hjs4]; first | rfl | (simp [errW_none, errW_some] <;> rfl)) | (simp [*, errW_none, errW_some] <;> rfl), by repeat (first | (with_reducible first | exact HB.out | apply below_alloc | apply pw_below_drewN | apply below_drew1) | exact HB.out)⟩
/-! ### cell_PutKid: function 51 -/
def cell_PutKid.j0 : Nat → Int → ByteArray → Bool → Option (ByteArray × Int)
 | 0, _, _, _ => none
 | k + 1, x0, x1, x13 => if x13 = true then (some ((⟨#[]⟩ : ByteArray), 3)) else ((word_Four.f ((x0) % 4294967296)).bind fun t276 => ((cell_text.f k x1).bind fun t277 => (if t276.size + t277.size ≤ 9223372036854775807 then (some (t276 ++ t277, 0)) else (none))))
def cell_PutKid.f (k : Nat) (a0 : Int) (a1 : ByteArray) : Option (ByteArray × Int) := (cell_page.f a0).bind fun t275 => (if t275 = true then (cell_PutKid.j0 k a0 a1 (decide ((a1.size : Int) > 128))) else (cell_PutKid.j0 k a0 a1 true))
theorem cell_PutKid.mono_l : ∀ k, (∀ y0 y1 y2, LeO (cell_PutKid.j0 k y0 y1 y2) (cell_PutKid.j0 (k + 1) y0 y1 y2))
 | 0 => fun _ _ _ r h => by simp [cell_PutKid.j0] at h
 | k + 1 => by
  have ih0 := cell_PutKid.mono_l k
  ·intro y0 y1 y2
   unfold cell_PutKid.j0
   repeat' first
   | (with_reducible exact ih0 _ _ _)
   | (with_reducible exact cell_text.mono _ _)
   | (with_reducible exact LeO.refl _)
   | (with_reducible exact LeO.none _)
   | (with_reducible refine LeO.ite ?_ ?_)
   | (with_reducible refine LeO.bind ?_ (fun _ => ?_))
   | exact ih0 _ _ _
   | exact cell_text.mono _ _
   | exact LeO.none _
   | refine LeO.ite ?_ ?_
   | refine LeO.bind ?_ (fun _ => ?_)
theorem cell_PutKid.mono : ∀ a0 a1 k, LeO (cell_PutKid.f k a0 a1) (cell_PutKid.f (k + 1) a0 a1) := by
 intro a0 a1 k
 have ih0 := cell_PutKid.mono_l k
 unfold cell_PutKid.f
 repeat' first
   | (with_reducible exact ih0 _ _ _)
   | (with_reducible exact cell_text.mono _ _)
   | (with_reducible exact LeO.refl _)
   | (with_reducible exact LeO.none _)
   | (with_reducible refine LeO.ite ?_ ?_)
   | (with_reducible refine LeO.bind ?_ (fun _ => ?_))
   | exact ih0 _ _ _
   | exact cell_text.mono _ _
   | exact LeO.none _
   | refine LeO.ite ?_ ?_
   | refine LeO.bind ?_ (fun _ => ?_)
set_option maxHeartbeats 8000000 in
set_option maxRecDepth 100000 in
theorem cell_PutKid.calls (k : Nat) (a0 : Int) (a1 : ByteArray) (r1 : ByteArray) (r2 : Int) (w : World) (h : cell_PutKid.f k a0 a1 = some (r1, r2)) :
  Calls Try.prog 51 #[.int .i64 a0, .string a1] w fun e w' => e = .returned (.tuple #[.string r1, .int .i64 r2]) ∧ Below w.heap.size w w' := by
 have HB := as_ (Below.refl w.heap.size w)
 have H : ((cell_page.f a0).bind fun t275 => (if t275 = true then (cell_PutKid.j0 k a0 a1 (decide ((a1.size : Int) > 128))) else (cell_PutKid.j0 k a0 a1 true))) = some (r1, r2) := h
 clear h
 have HC3 := Aside0.mk H
 clear H
 go_enter Try.func51, Try.ntmps51
 go_upto_region 1 with (fail)
 go_cut [13] (fun v13 wc => ∃ (kq : Nat) (x13_2 : Bool), v13 = .bool x13_2 ∧ Aside0 (cell_PutKid.j0 kq a0 a1 x13_2 = some (r1, r2)) ∧ Aside0 (kq ≤ k) ∧ Aside0 (Below w.heap.size w wc))
 case first =>
  have H := HC3.out
  clear HC3
  replace H := bM H
  obtain ⟨t275, A40, H⟩ := H
  replace H : (if t275 = true then (cell_PutKid.j0 k a0 a1 (decide ((a1.size : Int) > 128))) else (cell_PutKid.j0 k a0 a1 true)) = some (r1, r2) := H
  have A4 := Aside0.mk A40
  clear A40
  by_cases c5 : t275 = true
  ·subst c5
   have H1 : (cell_PutKid.j0 k a0 a1 (decide ((a1.size : Int) > 128))) = some (r1, r2) := by rw [if_pos rfl] at H; exact H
   clear H
   have H := H1
   clear H1
   have H' := Aside0.mk H
   clear H
   go_wp2_with (first | ((with_reducible refine gate_callee (f := 66) rfl ?_); refine goesL_ (some 7) rfl rfl Try.func66 (by kernel_rfl) rfl #[.int .i64 a0] rfl aO ?_; (with_reducible refine (cell_page.calls a0 true _ A4.out).mono ?_); rintro e w' ⟨rfl, ⟨nd, rfl⟩⟩; refine ⟨_, rfl, ?_⟩))
   go_meet
   case rel => exact ⟨_, (decide ((a1.size : Int) > 128)), (by first | rfl | (simp; done) | (simp [*]; done)), H', ⟨by first | omega | exact Nat.le_refl _⟩, ⟨by repeat (first | (with_reducible first | exact HB.out | apply below_alloc | apply pw_below_drewN | apply below_drew1) | exact HB.out)⟩⟩
  replace c5 := Bool.eq_false_iff.mpr c5
  subst c5
  have H1 : (cell_PutKid.j0 k a0 a1 true) = some (r1, r2) := by rw [if_neg (show ¬ (false = true) by decide)] at H; exact H
  clear H
  have H := H1
  clear H1
  have H' := Aside0.mk H
  clear H
  go_wp2_with (first | ((with_reducible refine gate_callee (f := 66) rfl ?_); refine goesL_ (some 7) rfl rfl Try.func66 (by kernel_rfl) rfl #[.int .i64 a0] rfl aO ?_; (with_reducible refine (cell_page.calls a0 false _ A4.out).mono ?_); rintro e w' ⟨rfl, ⟨nd, rfl⟩⟩; refine ⟨_, rfl, ?_⟩))
  go_meet
  case rel => exact ⟨_, (true), (by first | rfl | (simp; done) | (simp [*]; done)), H', ⟨by first | omega | exact Nat.le_refl _⟩, ⟨by repeat (first | (with_reducible first | exact HB.out | apply below_alloc | apply pw_below_drewN | apply below_drew1) | exact HB.out)⟩⟩
 case rest =>
  clear HC3
  try clear p2
  try clear c5
  obtain ⟨kq, x13_2, rfl, HA, HJ2, HB⟩ := hcut
  cases kq with
  | zero => exact absurd HA.out (by simp [cell_PutKid.j0])
  | succ kj2 =>
   have H := HA.out
   clear HA
   simp only [cell_PutKid.j0] at H
   by_cases c6 : x13_2 = true
   ·subst c6
    have H1 : (some ((⟨#[]⟩ : ByteArray), 3)) = some (r1, r2) := by rw [if_pos rfl] at H; exact H
    clear H
    have H := H1
    clear H1
    simp only [Option.some.injEq, Prod.mk.injEq] at H
    obtain ⟨rfl, rfl⟩ := H
    go_wp2
    go_ret2
    exact ⟨eW, by repeat (first | (with_reducible first | exact HB.out | apply below_alloc | apply pw_below_drewN | apply below_drew1) | exact HB.out)⟩
   replace c6 := Bool.eq_false_iff.mpr c6
   subst c6
   have H1 : ((word_Four.f ((a0) % 4294967296)).bind fun t276 => ((cell_text.f kj2 a1).bind fun t277 => (if t276.size + t277.size ≤ 9223372036854775807 then (some (t276 ++ t277, 0)) else (none)))) = some (r1, r2) := by rw [if_neg (show ¬ (false = true) by decide)] at H; exact H
   clear H
   have H := H1
   clear H1
   replace H := bM H
   obtain ⟨t276, A70, H⟩ := H
   replace H : ((cell_text.f kj2 a1).bind fun t277 => (if t276.size + t277.size ≤ 9223372036854775807 then (some (t276 ++ t277, 0)) else (none))) = some (r1, r2) := H
   have A7 := Aside0.mk A70
   clear A70
   replace H := bM H
   obtain ⟨t277, A80, H⟩ := H
   replace H : (if t276.size + t277.size ≤ 9223372036854775807 then (some (t276 ++ t277, 0)) else (none)) = some (r1, r2) := H
   have A8 := Aside0.mk A80
   clear A80
   by_cases c9 : t276.size + t277.size ≤ 9223372036854775807
   rotate_left
   ·rw [if_neg c9] at H
    exact absurd H (by simp)
 
   rw [if_pos c9] at H
   have c9b0 := eq_true c9
   have c9b1 : decide (t276.size + t277.size ≤ 9223372036854775807) = true := decide_eq_true c9
   try have c9b2 : (9223372036854775807 < t276.size + t277.size) = False := eq_false (Nat.not_lt.2 c9)
   obtain ⟨js10, hjs10⟩ : ∃ j_ : ByteArray, (t276 ++ t277) = j_ := ⟨_, rfl⟩
   replace H : (some (js10, 0)) = some (r1, r2) := by first | (rw [hjs10] at H; exact H) | (simp only [hjs10] at H ⊢; exact H)
   (try rw [hjs10] at A7)
   (try rw [hjs10] at A8)
   simp only [Option.some.injEq, Prod.mk.injEq] at H
   obtain ⟨rfl, rfl⟩ := H
   go_wp2_with (first | ((with_reducible refine gate_callee (f := 59) rfl ?_); refine goesL_ (some 16) rfl rfl Try.func59 (by kernel_rfl) rfl #[.int .u32 ((a0) % 4294967296)] rfl aO ?_; (with_reducible refine (word_Four.calls ((a0) % 4294967296) t276 _ A7.out).mono ?_); rintro e w11 ⟨rfl, hb⟩; refine ⟨_, rfl, ?_⟩; replace HB := as_ (below_step bA hb); (try clear hb); (try clear hb2); (try clear hk); (try clear hi)) | ((with_reducible refine gate_callee (f := 67) rfl ?_); refine goesL_ (some 18) rfl rfl Try.func67 (by kernel_rfl) rfl #[.string a1] rfl aO ?_; (with_reducible refine (cell_text.calls kj2 a1 t277 _ A8.out).mono ?_); rintro e w12 ⟨rfl, hb⟩; refine ⟨_, rfl, ?_⟩; replace HB := as_ (below_step bA hb); (try clear hb); (try clear hb2); (try clear hk); (try clear hi)))
   go_ret2
   exact ⟨by first | rfl | (simp [errW_none, errW_some] <;> rfl) | (simp only [← hjs10]; first | rfl | (simp [errW_none, errW_some] <;> rfl)) | (simp [*, errW_none, errW_some] <;> rfl), by repeat (first | (with_reducible first | exact HB.out | apply below_alloc | apply pw_below_drewN | apply below_drew1) | exact HB.out)⟩
/-! ### inner_parts: function 40 -/
def inner_parts.l0 : Nat → ByteArray → List ByteArray → List ByteArray → List Int → Int → Int → Int → Int → Int → ByteArray → List Int → List ByteArray → Option (ByteArray × List ByteArray)
 | 0, _, _, _, _, _, _, _, _, _, _, _, _ => none
 | k + 1, x4, x5, x6, x19, x20, x21, x279000, x279001, x279002, x279003, x279004, x279005 => if x21 < x20 then (if 0 ≤ x21 then (if x21 < (x19.length : Int) then (if x21 > 0 then (if 0 ≤ (wrap64 (x21 - 1)) then (if (wrap64 (x21 - 1)) < (x5.length : Int) then ((cell_PutKid.f k (rd x19 x21) (rdOf ByteArray.empty x5 (wrap64 (x21 - 1)))).bind fun bt285 => (if x6.length < 8796093022208 then (inner_parts.l0 k x4 x5 (x6 ++ [bt285.1]) x19 x20 (wrap64 (x21 + 1)) x279000 x279001 x279002 x279003 x279004 x279005) else (none))) else (none)) else (none)) else ((cell_PutKid.f k (rd x19 x21) (⟨#[]⟩ : ByteArray)).bind fun bt290 => (if x6.length < 8796093022208 then (inner_parts.l0 k x4 x5 (x6 ++ [bt290.1]) x19 x20 (wrap64 (x21 + 1)) x279000 x279001 x279002 x279003 x279004 x279005) else (none)))) else (none)) else (none)) else ((word_Put.f k (IntKind.u64.wrap ((x4.size : Int)))).bind fun t295 => (if t295.size + x4.size ≤ 9223372036854775807 then ((word_Put.f k (IntKind.u64.wrap ((x279003.size : Int)))).bind fun t296 => (if (t295 ++ x4).size + t296.size ≤ 9223372036854775807 then (if ((t295 ++ x4) ++ t296).size + x279003.size ≤ 9223372036854775807 then (some (((t295 ++ x4) ++ t296) ++ x279003, x6)) else (none)) else (none))) else (none)))
def inner_parts.f (k : Nat) (a0_0 : Int) (a0_1 : Int) (a0_2 : Int) (a0_3 : ByteArray) (l0_4 : List Int) (l0_5 : List ByteArray) : Option (ByteArray × List ByteArray) := (sep_Strip.f k l0_5).bind fun bt279 => (inner_parts.l0 k bt279.1 bt279.2 ([] : List ByteArray) l0_4 (l0_4.length : Int) 0 a0_0 a0_1 a0_2 a0_3 l0_4 l0_5)
theorem inner_parts.mono_l : ∀ k, (∀ y0 y1 y2 y3 y4 y5 y6 y7 y8 y9 y10 y11, LeO (inner_parts.l0 k y0 y1 y2 y3 y4 y5 y6 y7 y8 y9 y10 y11) (inner_parts.l0 (k + 1) y0 y1 y2 y3 y4 y5 y6 y7 y8 y9 y10 y11))
 | 0 => fun _ _ _ _ _ _ _ _ _ _ _ _ r h => by simp [inner_parts.l0] at h
 | k + 1 => by
  have ih0 := inner_parts.mono_l k
  ·intro y0 y1 y2 y3 y4 y5 y6 y7 y8 y9 y10 y11
   unfold inner_parts.l0
   repeat' first
   | (with_reducible exact ih0 _ _ _ _ _ _ _ _ _ _ _ _)
   | (with_reducible exact cell_PutKid.mono _ _ _)
   | (with_reducible exact sep_Strip.mono _ _)
   | (with_reducible exact word_Put.mono _ _)
   | (with_reducible exact LeO.refl _)
   | (with_reducible exact LeO.none _)
   | (with_reducible refine LeO.ite ?_ ?_)
   | (with_reducible refine LeO.bind ?_ (fun _ => ?_))
   | exact ih0 _ _ _ _ _ _ _ _ _ _ _ _
   | exact cell_PutKid.mono _ _ _
   | exact sep_Strip.mono _ _
   | exact word_Put.mono _ _
   | exact LeO.none _
   | refine LeO.ite ?_ ?_
   | refine LeO.bind ?_ (fun _ => ?_)
theorem inner_parts.mono : ∀ a0 a1 a2 a3 a4 a5 k, LeO (inner_parts.f k a0 a1 a2 a3 a4 a5) (inner_parts.f (k + 1) a0 a1 a2 a3 a4 a5) := by
 intro a0 a1 a2 a3 a4 a5 k
 have ih0 := inner_parts.mono_l k
 unfold inner_parts.f
 repeat' first
   | (with_reducible exact ih0 _ _ _ _ _ _ _ _ _ _ _ _)
   | (with_reducible exact cell_PutKid.mono _ _ _)
   | (with_reducible exact sep_Strip.mono _ _)
   | (with_reducible exact word_Put.mono _ _)
   | (with_reducible exact LeO.refl _)
   | (with_reducible exact LeO.none _)
   | (with_reducible refine LeO.ite ?_ ?_)
   | (with_reducible refine LeO.bind ?_ (fun _ => ?_))
   | exact ih0 _ _ _ _ _ _ _ _ _ _ _ _
   | exact cell_PutKid.mono _ _ _
   | exact sep_Strip.mono _ _
   | exact word_Put.mono _ _
   | exact LeO.none _
   | refine LeO.ite ?_ ?_
   | refine LeO.bind ?_ (fun _ => ?_)
def inner_parts.T12 : Bool × List (List Nat × List Nat) := (true, [([], []), ([0], [0]), ([1], [1]), ([2], [2]), ([], []), ([3, 4], [3, 4]), ([], []), ([6], [6]), ([7], [7]), ([8], [8]), ([9, 3], [9]), ([5, 10], [5, 10]), ([], []), ([12], [12]), ([11, 13], [11, 13]), ([], []), ([14, 10, 0, 1, 2, 3, 4, 5, 6, 7, 8, 9, 10, 11, 12, 13, 14], [14]), ([15, 16, 0, 1, 2, 3, 4, 5, 6, 7, 8, 9, 10, 11, 12, 13, 14, 15, 16], [15])])
def inner_parts.B12 : List Nat := [0, 1, 3, 7, 0, 31, 0, 64, 192, 448, 975, 2047, 0, 4096, 16383, 0, 32767, 131071]
theorem inner_parts.tab12 : rtab .any (opsOf Try.f40 12) = inner_parts.T12 := by kernel_rfl
theorem inner_parts.bits12 : waitsOk inner_parts.T12.2 inner_parts.B12 = true := by kernel_rfl
set_option maxHeartbeats 8000000 in
set_option maxRecDepth 100000 in
theorem inner_parts.calls (k : Nat) (a0_0 : Int) (a0_1 : Int) (a0_2 : Int) (a0_3 : ByteArray) (A0_4 : Option Addr) (c0_4 : Nat) (l0_4 : List Int) (A0_5 : Option Addr) (c0_5 : Nat) (l0_5 : List ByteArray) (r1 : ByteArray) (r2 : List ByteArray) (w : World) (hr0_4 : Kd.C (Kd.int .i64) w A0_4 l0_4.length l0_4) (hc0_4 : l0_4.length ≤ c0_4) (hr0_5 : Kd.C Kd.string w A0_5 l0_5.length l0_5) (hc0_5 : l0_5.length ≤ c0_5) (h : inner_parts.f k a0_0 a0_1 a0_2 a0_3 l0_4 l0_5 = some (r1, r2)) :
  Calls Try.prog 40 #[.agg #[.int .i64 a0_0, .int .i64 a0_1, .int .i64 a0_2, .string a0_3, .slice A0_4 l0_4.length c0_4, .slice A0_5 l0_5.length c0_5]] w fun e w' => ∃ v1_ : Value, e = .returned (.tuple #[.string r1, v1_]) ∧ Kd.R Kd.string 9 w' w.heap.size (fun _ => True) v1_ r2 ∧ Below w.heap.size w w' := by
 have hu50 := Try.underlying50
 have HR0_4 := Aside0.mk hr0_4
 have HC0_4 := Aside0.mk hc0_4
 clear hr0_4 hc0_4
 have HR0_5 := Aside0.mk hr0_5
 have HC0_5 := Aside0.mk hc0_5
 clear hr0_5 hc0_5
 have HB := as_ (Below.refl w.heap.size w)
 have H : ((sep_Strip.f k l0_5).bind fun bt279 => (inner_parts.l0 k bt279.1 bt279.2 ([] : List ByteArray) l0_4 (l0_4.length : Int) 0 a0_0 a0_1 a0_2 a0_3 l0_4 l0_5)) = some (r1, r2) := h
 clear h
 replace H := bM H
 obtain ⟨⟨t279, t280⟩, A20, H⟩ := H
 replace H : (inner_parts.l0 k t279 t280 ([] : List ByteArray) l0_4 (l0_4.length : Int) 0 a0_0 a0_1 a0_2 a0_3 l0_4 l0_5) = some (r1, r2) := H
 have A2 := Aside0.mk A20
 clear A20
 have H' := Aside0.mk H
 clear H
 go_enter Try.func40, Try.ntmps40
 go_wp2_with (first | ((with_reducible refine gate_dst (N := 1) rfl ?_); refine box_event (by rfl) (N := 1) (by rfl) (cs := #[.int .i64 a0_0, .int .i64 a0_1, .int .i64 a0_2, .string a0_3, .slice A0_4 l0_4.length c0_4, .slice A0_5 l0_5.length c0_5]) (t := 50) gS ?_; intro gb278 hg w3 hbox hb; have BK278 := as_ (hbox); have GW278 := gw hg bA; have GE278 := gw hg bA; replace HB := as_ (below_step bA hb); clear hb hbox hg; obtain ⟨hcz4_0, hcz4_1, hcz4_2, hcz4_3, hcz4_4, hcz4_5⟩ := zc6 BK278; obtain ⟨hfz4_0, hfz4_1, hfz4_2, hfz4_3, hfz4_4, hfz4_5⟩ := zf6 BK278) | ((with_reducible refine gate_callee (f := 50) rfl ?_); refine goesL_ (some 15) rfl rfl Try.func50 (by kernel_rfl) rfl #[.slice A0_5 l0_5.length c0_5] rfl aO ?_; (with_reducible refine (sep_Strip.calls k _ _ l0_5 t279 t280 _ ?side1 ?side2 A2.out).mono ?_); (case side1 => repeat (first | exact (Kd.C_below HR0_5.out HB.out) | (with_reducible refine Kd.C_alloc ?_ _) | (with_reducible refine Kd.C_drewN ?_ _) | (with_reducible refine Kd.C_drew ?_))); (case side2 => exact HC0_5.out); rintro e w5 ⟨v281, rfl, ho0, hb⟩; refine ⟨_, rfl, ?_⟩; have HO282 := as_ (Kd.R_lower ho0 (below_size bA)); replace BK278 := bb BK278 hb; replace HB := as_ (below_step bA hb); (try clear hb); (try clear hb2); (try clear hk); (try clear hi); (try clear ho0); obtain ⟨hcz6_0, hcz6_1, hcz6_2, hcz6_3, hcz6_4, hcz6_5⟩ := zc6 BK278; obtain ⟨hfz6_0, hfz6_1, hfz6_2, hfz6_3, hfz6_4, hfz6_5⟩ := zf6 BK278))
 go_loopg [6, 21] k (fun kq v6 v21 w' => ∃ (x6_1 : List ByteArray) (x21_1 : Int), v21 = .int .i64 x21_1 ∧ Aside0 (inner_parts.l0 kq t279 t280 x6_1 l0_4 (l0_4.length : Int) x21_1 a0_0 a0_1 a0_2 a0_3 l0_4 l0_5 = some (r1, r2)) ∧ Aside0 (kq ≤ k) ∧ Aside0 (Kd.R Kd.string 9 w' w.heap.size (fun k_ => some k_ ≠ (v6 : Value).ownBlock) v281 t280) ∧ Aside0 (Kd.R Kd.string 9 w' w.heap.size (fun k_ => some k_ ≠ (v281 : Value).ownBlock) v6 x6_1) ∧ Aside0 (w'.heap[gb278]? = some (.cells #[.int .i64 a0_0, .int .i64 a0_1, .int .i64 a0_2, .string a0_3, (.slice A0_4 l0_4.length c0_4), (.slice A0_5 l0_5.length c0_5)] 50 (0, 0))) ∧ Aside0 (Below w.heap.size w w'))
 case atStart => exact ⟨(([] : List ByteArray)), (0), (by first | rfl | (simp; done) | (simp [*]; done)), H', ⟨Nat.le_refl _⟩, ⟨by (with_reducible repeat (first | apply Kd.R_alloc | apply Kd.R_drewN | apply Kd.R_drew)); exact Kd.R_mono HO282.out (fun _ hk => (by simp [Value.ownBlock]))⟩, ⟨by first | exact Kd.R_nil _ _ _ _ _ | exact Kd.N_nil _ _ _ _ _ | exact Kd.V_nil _ _ _ _ _ | exact Kd.Q_nil _ _ _ _ _ | exact Kd.S_nil _ _ _ _ _⟩, ⟨by refine bx ?_; exact BK278.out⟩, ⟨by repeat (first | (with_reducible first | exact HB.out | apply below_alloc | apply pw_below_drewN | apply below_drew1 | refine below_set ?_ GE278.out) | exact HB.out)⟩⟩
 case round =>
  clear H'
  try clear p2
  try clear c4
  try clear c5
  try clear hcz4_0
  try clear hcz4_1
  try clear hcz4_2
  try clear hcz4_3
  try clear hcz4_4
  try clear hcz4_5
  try clear hcz6_0
  try clear hcz6_1
  try clear hcz6_2
  try clear hcz6_3
  try clear hcz6_4
  try clear hcz6_5
  try clear hfz4_0
  try clear hfz4_1
  try clear hfz4_2
  try clear hfz4_3
  try clear hfz4_4
  try clear hfz4_5
  try clear hfz6_0
  try clear hfz6_1
  try clear hfz6_2
  try clear hfz6_3
  try clear hfz6_4
  try clear hfz6_5
  obtain ⟨x6_1, x21_1, rfl, HA, HK1, HO_5, HO_6, BK278, HB⟩ := hrel
  cases gk with
  | zero => exact absurd HA.out (by simp [inner_parts.l0])
  | succ k1 =>
   have H := HA.out
   clear HA
   simp only [inner_parts.l0] at H
   by_cases c7 : x21_1 < (l0_4.length : Int)
   ·rw [if_pos c7] at H
    have c7b0 : decide (x21_1 < (l0_4.length : Int)) = true := decide_eq_true c7
    clear c7
    by_cases c8 : 0 ≤ x21_1
    rotate_left
    ·rw [if_neg c8] at H
     exact absurd H (by simp)
    rw [if_pos c8] at H
    have c8b0 : decide (0 ≤ x21_1) = true := decide_eq_true c8
    clear c8
    by_cases c9 : x21_1 < (l0_4.length : Int)
    rotate_left
    ·rw [if_neg c9] at H
     exact absurd H (by simp)
    rw [if_pos c9] at H
    have c9b0 : decide (x21_1 < (l0_4.length : Int)) = true := decide_eq_true c9
    clear c9
    by_cases c10 : x21_1 > 0
    rotate_left
    ·rw [if_neg c10] at H
     have c10b0 : decide (0 < x21_1) = false := decide_eq_false c10
     clear c10
     replace H := bM H
     obtain ⟨⟨t290, t291⟩, A190, H⟩ := H
     replace H : (if x6_1.length < 8796093022208 then (inner_parts.l0 k1 t279 t280 (x6_1 ++ [t290]) l0_4 (l0_4.length : Int) (wrap64 (x21_1 + 1)) a0_0 a0_1 a0_2 a0_3 l0_4 l0_5) else (none)) = some (r1, r2) := H
     have A19 := Aside0.mk A190
     clear A190
     by_cases c20 : x6_1.length < 8796093022208
     rotate_left
     ·rw [if_neg c20] at H
      exact absurd H (by simp)
     rw [if_pos c20] at H
     have LMc20 := Aside0.mk c20
     clear c20
     obtain ⟨y292, hy292⟩ : ∃ y_ : List ByteArray, y_ = (x6_1 ++ [t290]) := ⟨_, rfl⟩
     replace H : (inner_parts.l0 k1 t279 t280 y292 l0_4 (l0_4.length : Int) (wrap64 (x21_1 + 1)) a0_0 a0_1 a0_2 a0_3 l0_4 l0_5) = some (r1, r2) := by first | (rw [hy292]; with_reducible exact H) | (have H2_ := (Option.bind_some _ _).symm.trans H; rw [hy292]; with_reducible exact H2_) | (have H2_ := (Option.bind_some _ _).symm.trans H; with_reducible exact H2_) | with_reducible exact H | (rw [hy292]; exact H) | exact H
     have Ny292 := Aside0.mk hy292
     clear hy292
     have H' := Aside0.mk H
     clear H
     have p283 : 0 ≤ (x21_1 : Int) := of_decide_eq_true aM
     have q283 : x21_1 < (l0_4.length : Int) := of_decide_eq_true aM
     obtain ⟨ad283, e283, hx283_0⟩ := Kd.at_int HR0_4.out x21_1 p283 q283
     cases e283
     replace hx283_0 := (HB.out.cell (World.block_lt_of_cell? w _ hx283_0)).trans hx283_0
     replace p283 := eq_true p283
     replace q283 := eq_true q283
     go_wp2_with (first | ((with_reducible refine gate_callee (f := 51) rfl ?_); refine goesL_ (some 36) rfl rfl Try.func51 (by kernel_rfl) rfl #[.int .i64 (rd l0_4 x21_1), .string (⟨#[]⟩ : ByteArray)] rfl aO ?_; (with_reducible refine (cell_PutKid.calls k1 (rd l0_4 x21_1) (⟨#[]⟩ : ByteArray) t290 t291 _ A19.out).mono ?_); rintro e w21 ⟨rfl, hb⟩; refine ⟨_, rfl, ?_⟩; replace HO_5 := as_ (Kd.R_below (by (with_reducible repeat (first | apply Kd.R_alloc | apply Kd.R_drewN | apply Kd.R_drew)); exact HO_5.out) hb); replace HO_6 := as_ (Kd.R_below (by (with_reducible repeat (first | apply Kd.R_alloc | apply Kd.R_drewN | apply Kd.R_drew)); exact HO_6.out) hb); replace BK278 := bb BK278 hb; replace HB := as_ (below_step bA hb); (try clear hb); (try clear hb2); (try clear hk); (try clear hi)) | ((with_reducible refine gate_builtin (b := .append) (xs := #[.tmp 39, .tmp 41]) rfl ?_); at_builtin; refine Kd.R_append Kd.string (w0 := w) w.heap.size rfl (.tmp 39) (.tmp 41) 22 9 (.string ⟨#[]⟩) 16 rfl Try.underlying22 info9 rfl (by decide) (by omega) u6 x6_1 t290 [.string t290] (fun k_ => some k_ ≠ (v281 : Value).ownBlock) (fun _ => False) rfl rfl ?aP (fun _ hk => hk.elim) ?aF ?aO ?aB ?aS ?aL ?_; (case aP => exact rfl); (case aB => exact bA); (case aF => exact (fun k_ hk => Kd.fresh' (Kd.R_lt (by (with_reducible repeat (first | apply Kd.R_alloc | apply Kd.R_drewN | apply Kd.R_drew)); exact HO_5.out)) k_ hk)); (case aO => exact (by (with_reducible repeat (first | apply Kd.R_alloc | apply Kd.R_drewN | apply Kd.R_drew)); exact HO_6.out)); (case aS => exact (below_size bA)); (case aL => have := LMc20.out; omega); intro v293 w22 ho hb hg hat; rw [← Ny292.out] at ho; have HO294 := as_ (ho); replace HO_5 := as_ (Kd.R_after (ok := (fun _ => True)) (by (with_reducible repeat (first | apply Kd.R_alloc | apply Kd.R_drewN | apply Kd.R_drew)); exact Kd.R_mono HO_5.out (fun _ hk => ⟨trivial, hk⟩)) hg hat); replace BK278 := as_ (blk_grown (g := gb278) (o := .cells #[.int .i64 a0_0, .int .i64 a0_1, .int .i64 a0_2, .string a0_3, .slice (some ad283) l0_4.length c0_4, .slice A0_5 l0_5.length c0_5] 50 (0, 0)) (bk BK278) hg (Kd.R_ne HO_6.out BK278.out (by decide))); replace HB := as_ (hb); clear HO_6; clear ho hb hg hat))
     go_roundg k1
     case measure => have := HK1.out; omega
     case rel => exact ⟨(y292), (wrap64 (x21_1 + 1)), (by first | rfl | (simp; done) | (simp [*]; done)), H', ⟨by have := HK1.out; omega⟩, ⟨by (with_reducible repeat (first | apply Kd.R_alloc | apply Kd.R_drewN | apply Kd.R_drew)); exact Kd.R_mono HO_5.out (fun _ hk => hk.2)⟩, ⟨by (with_reducible repeat (first | apply Kd.R_alloc | apply Kd.R_drewN | apply Kd.R_drew)); exact HO294.out⟩, ⟨by refine bx ?_; exact BK278.out⟩, ⟨by repeat (first | (with_reducible first | exact HB.out | apply below_alloc | apply pw_below_drewN | apply below_drew1 | refine below_set ?_ GE278.out) | exact HB.out)⟩⟩
    rw [if_pos c10] at H
    have c10b0 : decide (0 < x21_1) = true := decide_eq_true c10
    clear c10
    obtain ⟨ji11, hji11⟩ : ∃ j_ : Int, (wrap64 (x21_1 - 1)) = j_ := ⟨_, rfl⟩
    replace H : (if 0 ≤ (ji11) then (if (ji11) < (t280.length : Int) then ((cell_PutKid.f k1 (rd l0_4 x21_1) (rdOf ByteArray.empty t280 (ji11))).bind fun bt285 => (if x6_1.length < 8796093022208 then (inner_parts.l0 k1 t279 t280 (x6_1 ++ [bt285.1]) l0_4 (l0_4.length : Int) (wrap64 (x21_1 + 1)) a0_0 a0_1 a0_2 a0_3 l0_4 l0_5) else (none))) else (none)) else (none)) = some (r1, r2) := by first | (rw [hji11] at H; exact H) | (simp only [hji11] at H ⊢; exact H)
    have hji11w : (IntKind.i64.wrap (x21_1 - 1)) = ji11 := (i64_w _).trans hji11
    by_cases c12 : 0 ≤ (ji11)
    rotate_left
    ·rw [if_neg c12] at H
     exact absurd H (by simp)
    rw [if_pos c12] at H
    have c12b0 : decide (0 ≤ (ji11)) = true := decide_eq_true c12
    clear c12
    by_cases c13 : (ji11) < (t280.length : Int)
    rotate_left
    ·rw [if_neg c13] at H
     exact absurd H (by simp)
    rw [if_pos c13] at H
    have c13b0 : decide ((ji11) < (t280.length : Int)) = true := decide_eq_true c13
    clear c13
    replace H := bM H
    obtain ⟨⟨t285, t286⟩, A140, H⟩ := H
    replace H : (if x6_1.length < 8796093022208 then (inner_parts.l0 k1 t279 t280 (x6_1 ++ [t285]) l0_4 (l0_4.length : Int) (wrap64 (x21_1 + 1)) a0_0 a0_1 a0_2 a0_3 l0_4 l0_5) else (none)) = some (r1, r2) := H
    have A14 := Aside0.mk A140
    clear A140
    by_cases c15 : x6_1.length < 8796093022208
    rotate_left
    ·rw [if_neg c15] at H
     exact absurd H (by simp)
    rw [if_pos c15] at H
    have LMc15 := Aside0.mk c15
    clear c15
    obtain ⟨y287, hy287⟩ : ∃ y_ : List ByteArray, y_ = (x6_1 ++ [t285]) := ⟨_, rfl⟩
    replace H : (inner_parts.l0 k1 t279 t280 y287 l0_4 (l0_4.length : Int) (wrap64 (x21_1 + 1)) a0_0 a0_1 a0_2 a0_3 l0_4 l0_5) = some (r1, r2) := by first | (rw [hy287]; with_reducible exact H) | (have H2_ := (Option.bind_some _ _).symm.trans H; rw [hy287]; with_reducible exact H2_) | (have H2_ := (Option.bind_some _ _).symm.trans H; with_reducible exact H2_) | with_reducible exact H | (rw [hy287]; exact H) | exact H
    have Ny287 := Aside0.mk hy287
    clear hy287
    have H' := Aside0.mk H
    clear H
    have p283 : 0 ≤ (x21_1 : Int) := of_decide_eq_true aM
    have q283 : x21_1 < (l0_4.length : Int) := of_decide_eq_true aM
    obtain ⟨ad283, e283, hx283_0⟩ := Kd.at_int HR0_4.out x21_1 p283 q283
    cases e283
    replace hx283_0 := (HB.out.cell (World.block_lt_of_cell? w _ hx283_0)).trans hx283_0
    replace p283 := eq_true p283
    replace q283 := eq_true q283
    obtain ⟨Ao16, co16, eo16⟩ := Kd.R_slice HO_5.out
    subst eo16
    have p284 : 0 ≤ ((ji11) : Int) := of_decide_eq_true aM
    have q284 : (ji11) < (t280.length : Int) := of_decide_eq_true aM
    obtain ⟨ad284, e284, hx284_0⟩ := Kd.at_string (Kd.R_reads' HO_5.out).2.2 (ji11) p284 q284
    cases e284
    replace p284 := eq_true p284
    replace q284 := eq_true q284
    go_wp2_with (first | ((with_reducible refine gate_callee (f := 51) rfl ?_); refine goesL_ (some 36) rfl rfl Try.func51 (by kernel_rfl) rfl #[.int .i64 (rd l0_4 x21_1), .string (rdOf ByteArray.empty t280 (ji11))] rfl (by (try simp only [List.map_toArray, List.map_cons, List.map_nil]); first | done | (simp only [hji11]; rfl) | rfl | (simp only [List.length_drop, List.length_take]; rfl)) ?_; (with_reducible refine (cell_PutKid.calls k1 (rd l0_4 x21_1) (rdOf ByteArray.empty t280 (ji11)) t285 t286 _ A14.out).mono ?_); rintro e w17 ⟨rfl, hb⟩; refine ⟨_, rfl, ?_⟩; replace HO_5 := as_ (Kd.R_below (by (with_reducible repeat (first | apply Kd.R_alloc | apply Kd.R_drewN | apply Kd.R_drew)); exact HO_5.out) hb); replace HO_6 := as_ (Kd.R_below (by (with_reducible repeat (first | apply Kd.R_alloc | apply Kd.R_drewN | apply Kd.R_drew)); exact HO_6.out) hb); replace BK278 := bb BK278 hb; replace HB := as_ (below_step bA hb); (try clear hb); (try clear hb2); (try clear hk); (try clear hi)) | ((with_reducible refine gate_builtin (b := .append) (xs := #[.tmp 39, .tmp 41]) rfl ?_); at_builtin; refine Kd.R_append Kd.string (w0 := w) w.heap.size rfl (.tmp 39) (.tmp 41) 22 9 (.string ⟨#[]⟩) 16 rfl Try.underlying22 info9 rfl (by decide) (by omega) u6 x6_1 t285 [.string t285] (fun k_ => some k_ ≠ (.slice (some ad284) t280.length co16 : Value).ownBlock) (fun _ => False) rfl rfl ?aP (fun _ hk => hk.elim) ?aF ?aO ?aB ?aS ?aL ?_; (case aP => exact rfl); (case aB => exact bA); (case aF => exact (fun k_ hk => Kd.fresh' (Kd.R_lt (by (with_reducible repeat (first | apply Kd.R_alloc | apply Kd.R_drewN | apply Kd.R_drew)); exact HO_5.out)) k_ hk)); (case aO => exact (by (with_reducible repeat (first | apply Kd.R_alloc | apply Kd.R_drewN | apply Kd.R_drew)); exact HO_6.out)); (case aS => exact (below_size bA)); (case aL => have := LMc15.out; omega); intro v288 w18 ho hb hg hat; rw [← Ny287.out] at ho; have HO289 := as_ (ho); replace HO_5 := as_ (Kd.R_after (ok := (fun _ => True)) (by (with_reducible repeat (first | apply Kd.R_alloc | apply Kd.R_drewN | apply Kd.R_drew)); exact Kd.R_mono HO_5.out (fun _ hk => ⟨trivial, hk⟩)) hg hat); replace BK278 := as_ (blk_grown (g := gb278) (o := .cells #[.int .i64 a0_0, .int .i64 a0_1, .int .i64 a0_2, .string a0_3, .slice (some ad283) l0_4.length c0_4, .slice A0_5 l0_5.length c0_5] 50 (0, 0)) (bk BK278) hg (Kd.R_ne HO_6.out BK278.out (by decide))); replace HB := as_ (hb); clear HO_6; clear ho hb hg hat))
    go_roundg k1
    case measure => have := HK1.out; omega
    case rel => exact ⟨(y287), (wrap64 (x21_1 + 1)), (by first | rfl | (simp; done) | (simp [*]; done)), H', ⟨by have := HK1.out; omega⟩, ⟨by (with_reducible repeat (first | apply Kd.R_alloc | apply Kd.R_drewN | apply Kd.R_drew)); exact Kd.R_mono HO_5.out (fun _ hk => hk.2)⟩, ⟨by (with_reducible repeat (first | apply Kd.R_alloc | apply Kd.R_drewN | apply Kd.R_drew)); exact HO289.out⟩, ⟨by refine bx ?_; exact BK278.out⟩, ⟨by repeat (first | (with_reducible first | exact HB.out | apply below_alloc | apply pw_below_drewN | apply below_drew1 | refine below_set ?_ GE278.out) | exact HB.out)⟩⟩
   rw [if_neg c7] at H
   have c7b0 : decide (x21_1 < (l0_4.length : Int)) = false := decide_eq_false c7
   clear c7
   replace H := bM H
   obtain ⟨t295, A230, H⟩ := H
   replace H : (if t295.size + t279.size ≤ 9223372036854775807 then ((word_Put.f k1 (IntKind.u64.wrap ((a0_3.size : Int)))).bind fun t296 => (if (t295 ++ t279).size + t296.size ≤ 9223372036854775807 then (if ((t295 ++ t279) ++ t296).size + a0_3.size ≤ 9223372036854775807 then (some (((t295 ++ t279) ++ t296) ++ a0_3, x6_1)) else (none)) else (none))) else (none)) = some (r1, r2) := H
   have A23 := Aside0.mk A230
   clear A230
   by_cases c24 : t295.size + t279.size ≤ 9223372036854775807
   rotate_left
   ·rw [if_neg c24] at H
    exact absurd H (by simp)
 
   rw [if_pos c24] at H
   have c24b0 := eq_true c24
   have c24b1 : decide (t295.size + t279.size ≤ 9223372036854775807) = true := decide_eq_true c24
   try have c24b2 : (9223372036854775807 < t295.size + t279.size) = False := eq_false (Nat.not_lt.2 c24)
   obtain ⟨js25, hjs25⟩ : ∃ j_ : ByteArray, (t295 ++ t279) = j_ := ⟨_, rfl⟩
   replace H : ((word_Put.f k1 (IntKind.u64.wrap ((a0_3.size : Int)))).bind fun t296 => (if (js25).size + t296.size ≤ 9223372036854775807 then (if ((js25) ++ t296).size + a0_3.size ≤ 9223372036854775807 then (some (((js25) ++ t296) ++ a0_3, x6_1)) else (none)) else (none))) = some (r1, r2) := by first | (rw [hjs25] at H; exact H) | (simp only [hjs25] at H ⊢; exact H)
   (try rw [hjs25] at A23)
   replace H := bM H
   obtain ⟨t296, A260, H⟩ := H
   replace H : (if (js25).size + t296.size ≤ 9223372036854775807 then (if ((js25) ++ t296).size + a0_3.size ≤ 9223372036854775807 then (some (((js25) ++ t296) ++ a0_3, x6_1)) else (none)) else (none)) = some (r1, r2) := H
   have A26 := Aside0.mk A260
   clear A260
   by_cases c27 : (js25).size + t296.size ≤ 9223372036854775807
   rotate_left
   ·rw [if_neg c27] at H
    exact absurd H (by simp)
   rw [if_pos c27] at H
   have c27b0 := eq_true c27
   have c27b1 : decide ((js25).size + t296.size ≤ 9223372036854775807) = true := decide_eq_true c27
   try have c27b2 : (9223372036854775807 < (js25).size + t296.size) = False := eq_false (Nat.not_lt.2 c27)
   obtain ⟨js28, hjs28⟩ : ∃ j_ : ByteArray, ((js25) ++ t296) = j_ := ⟨_, rfl⟩
   replace H : (if (js28).size + a0_3.size ≤ 9223372036854775807 then (some ((js28) ++ a0_3, x6_1)) else (none)) = some (r1, r2) := by first | (rw [hjs28] at H; exact H) | (simp only [hjs28] at H ⊢; exact H)
   (try rw [hjs28] at A23)
   (try rw [hjs28] at A26)
   by_cases c29 : (js28).size + a0_3.size ≤ 9223372036854775807
   rotate_left
   ·rw [if_neg c29] at H
    exact absurd H (by simp)
   rw [if_pos c29] at H
   have c29b0 := eq_true c29
   have c29b1 : decide ((js28).size + a0_3.size ≤ 9223372036854775807) = true := decide_eq_true c29
   try have c29b2 : (9223372036854775807 < (js28).size + a0_3.size) = False := eq_false (Nat.not_lt.2 c29)
   obtain ⟨js30, hjs30⟩ : ∃ j_ : ByteArray, ((js28) ++ a0_3) = j_ := ⟨_, rfl⟩
   replace H : (some (js30, x6_1)) = some (r1, r2) := by first | (rw [hjs30] at H; exact H) | (simp only [hjs30] at H ⊢; exact H)
   (try rw [hjs30] at A23)
   (try rw [hjs30] at A26)
   simp only [Option.some.injEq, Prod.mk.injEq] at H
   obtain ⟨rfl, rfl⟩ := H
   try go_wp2
   replace HO_5 := as_ (Kd.R_drew HO_5.out)
   replace HO_6 := as_ (Kd.R_drew HO_6.out)
   replace BK278 := as_ (blk_drew BK278.out)
   replace HB := as_ (below_drew1 HB.out)
   refine start_ (n := 18) (S := fun w' => w'.cell? ⟨gb278, 0, none⟩ = some (.int .i64 a0_0) ∧ w'.cell? ⟨gb278, 1, none⟩ = some (.int .i64 a0_1) ∧ w'.cell? ⟨gb278, 2, none⟩ = some (.int .i64 a0_2) ∧ w'.cell? ⟨gb278, 3, none⟩ = some (.string a0_3) ∧ w'.cell? ⟨gb278, 4, none⟩ = some (.slice A0_4 l0_4.length c0_4) ∧ w'.cell? ⟨gb278, 5, none⟩ = some (.slice A0_5 l0_5.length c0_5)) (ds := []) #[ff, ff, ff, ff, ff, ff, ff, ff, ff, ff, ff, ff, ff, ff, ff, ff, ff, ff] (by kernel_rfl) rfl rfl ⟨(blk_cell BK278.out 0).trans rfl, (blk_cell BK278.out 1).trans rfl, (blk_cell BK278.out 2).trans rfl, (blk_cell BK278.out 3).trans rfl, (blk_cell BK278.out 4).trans rfl, (blk_cell BK278.out 5).trans rfl⟩ (fun hHeld => ?_); refine with_tabW inner_parts.tab12 inner_parts.bits12 (fun HT_ HW_ => ?_)
   generalize wr.drew = w31 at HO_5 HO_6 BK278 HB hHeld ⊢
   refine pure_ (i := 0) (N := some 44) (v := ?_) (a' := ?_) #[tt, ff, ff, ff, ff, ff, ff, ff, ff, ff, ff, ff, ff, ff, ff, ff, ff, ff] rfl rfl (any_of HT_.out (by kernel_rfl)) (fun _ _ _ h => h) (Or.inl ⟨by rfl, ?_⟩) ?_ ?_
   rotate_left
   ·intro w'
    go_simp
    with_reducible rfl
   rotate_left
   ·exact aP
   refine pure_ (i := 1) (N := some 45) (v := ?_) (a' := ?_) #[tt, tt, ff, ff, ff, ff, ff, ff, ff, ff, ff, ff, ff, ff, ff, ff, ff, ff] rfl rfl (any_of HT_.out (by kernel_rfl)) (fun _ _ _ h => h) (Or.inl ⟨by rfl, ?_⟩) ?_ ?_
   rotate_left
   ·intro w'
    go_simp
    with_reducible rfl
   rotate_left
   ·exact aP
   refine pure_ (i := 2) (N := some 46) (v := ?_) (a' := ?_) #[tt, tt, tt, ff, ff, ff, ff, ff, ff, ff, ff, ff, ff, ff, ff, ff, ff, ff] rfl rfl (any_of HT_.out (by kernel_rfl)) (fun _ _ _ h => h) (Or.inl ⟨by rfl, ?_⟩) ?_ ?_
   rotate_left
   ·intro w'
    go_simp
    with_reducible rfl
   rotate_left
   ·exact aP
   refine pure_ (i := 4) (N := some 48) (v := ?_) (a' := ?_) #[tt, tt, tt, ff, tt, ff, ff, ff, ff, ff, ff, ff, ff, ff, ff, ff, ff, ff] rfl rfl (any_of HT_.out (by kernel_rfl)) (fun _ _ _ h => h) (Or.inl ⟨by rfl, ?_⟩) ?_ ?_
   rotate_left
   ·intro w'
    go_simp
    with_reducible rfl
   rotate_left
   ·exact aP
   refine pure_ (i := 6) (N := some 50) (v := ?_) (a' := ?_) #[tt, tt, tt, ff, tt, ff, tt, ff, ff, ff, ff, ff, ff, ff, ff, ff, ff, ff] rfl rfl (any_of HT_.out (by kernel_rfl)) (fun _ _ _ h => h) (Or.inl ⟨by rfl, ?_⟩) ?_ ?_
   rotate_left
   ·intro w'
    go_simp
    with_reducible rfl
   rotate_left
   ·exact aP
   refine pure_ (i := 12) (N := some 56) (v := ?_) (a' := ?_) #[tt, tt, tt, ff, tt, ff, tt, ff, ff, ff, ff, ff, tt, ff, ff, ff, ff, ff] rfl rfl (any_of HT_.out (by kernel_rfl)) (fun _ _ _ h => h) (Or.inl ⟨by rfl, ?_⟩) ?_ ?_
   rotate_left
   ·intro w'
    go_simp
    with_reducible rfl
   rotate_left
   ·exact aP
   refine pure_ (i := 15) (N := some 59) (v := ?_) (a' := ?_) #[tt, tt, tt, ff, tt, ff, tt, ff, ff, ff, ff, ff, tt, ff, ff, tt, ff, ff] rfl rfl (any_of HT_.out (by kernel_rfl)) (fun _ _ _ h => h) (Or.inl ⟨by rfl, ?_⟩) ?_ ?_
   rotate_left
   ·intro w'
    go_simp
    with_reducible rfl
   rotate_left
   ·exact aP
   refine take_ (i := 7) (N := some 51) (v := ?_) (a' := ?_) #[tt, tt, tt, ff, tt, ff, tt, tt, ff, ff, ff, ff, tt, ff, ff, tt, ff, ff] rfl rfl (take_ofW HT_.out HW_.out (by kernel_rfl)) (fun _ _ _ h => h) (Or.inl ⟨by rfl, ?_⟩) hHeld ?_ ?_
   rotate_left
   ·rintro w' ⟨s0, s1, s2, s3, s4, s5⟩
    go_simp
    with_reducible rfl
   rotate_left
   ·exact aP
   refine pure_ (i := 8) (N := some 52) (v := ?_) (a' := ?_) #[tt, tt, tt, ff, tt, ff, tt, tt, tt, ff, ff, ff, tt, ff, ff, tt, ff, ff] rfl rfl (any_of HT_.out (by kernel_rfl)) (fun _ _ _ h => h) (Or.inl ⟨by rfl, ?_⟩) ?_ ?_
   rotate_left
   ·intro w'
    go_simp
    with_reducible rfl
   rotate_left
   ·exact aP
   refine pure_ (i := 9) (N := some 53) (v := ?_) (a' := ?_) #[tt, tt, tt, ff, tt, ff, tt, tt, tt, tt, ff, ff, tt, ff, ff, tt, ff, ff] rfl rfl (any_of HT_.out (by kernel_rfl)) (fun _ _ _ h => h) (Or.inl ⟨by rfl, ?_⟩) ?_ ?_
   rotate_left
   ·intro w'
    go_simp
    with_reducible rfl
   rotate_left
   ·exact aP
   refine take_ (i := 13) (N := some 57) (v := ?_) (a' := ?_) #[tt, tt, tt, ff, tt, ff, tt, tt, tt, tt, ff, ff, tt, tt, ff, tt, ff, ff] rfl rfl (take_ofW HT_.out HW_.out (by kernel_rfl)) (fun _ _ _ h => h) (Or.inl ⟨by rfl, ?_⟩) hHeld ?_ ?_
   rotate_left
   ·rintro w' ⟨s0, s1, s2, s3, s4, s5⟩
    go_simp
    with_reducible rfl
   rotate_left
   ·exact aP
   refine one_ (i := 3) (N := some 47) #[tt, tt, tt, tt, tt, ff, tt, tt, tt, tt, ff, ff, tt, tt, ff, tt, ff, ff] rfl rfl (one_of HT_.out (by kernel_rfl)) (by decide) (fun K hK => ?_)
   refine goes_ Try.func52 (by kernel_rfl) rfl #[.int .u64 (IntKind.u64.wrap ((t279.size : Int)))] (by rfl) rfl rfl aO ?_
   with_reducible refine (word_Put.calls k1 (IntKind.u64.wrap ((t279.size : Int))) t295 _ A23.out).mono ?_
   rintro e w32 ⟨rfl, hb⟩
   refine ⟨_, rfl, ?_⟩
   replace HO_5 := as_ (Kd.R_below (by (with_reducible repeat (first | apply Kd.R_alloc | apply Kd.R_drewN | apply Kd.R_drew)); exact HO_5.out) hb)
   replace HO_6 := as_ (Kd.R_below (by (with_reducible repeat (first | apply Kd.R_alloc | apply Kd.R_drewN | apply Kd.R_drew)); exact HO_6.out) hb)
   replace BK278 := bb BK278 hb
   replace HB := as_ (below_step bA hb)
   (try clear hb)
   (try clear hb2)
   (try clear hk)
   (try clear hi)
   refine hK.out _ _ ⟨(blk_cell BK278.out 0).trans rfl, (blk_cell BK278.out 1).trans rfl, (blk_cell BK278.out 2).trans rfl, (blk_cell BK278.out 3).trans rfl, (blk_cell BK278.out 4).trans rfl, (blk_cell BK278.out 5).trans rfl⟩ (fun hHeld => ?_)
   clear hK K
   refine norm_ (a' := ?_) ?_ ?_
   rotate_left
   ·show Act.put _ (some 47) _ = _
    simp only [Act.put, List.setIfInBounds_toArray, List.set_cons_zero, List.set_cons_succ, i64_w, i32_w]
    rfl
   refine pure_ (i := 5) (N := some 49) (v := ?_) (a' := ?_) #[tt, tt, tt, tt, tt, tt, tt, tt, tt, tt, ff, ff, tt, tt, ff, tt, ff, ff] rfl rfl (any_of HT_.out (by kernel_rfl)) (fun _ _ _ h => h) (Or.inl ⟨by rfl, ?_⟩) ?_ ?_
   rotate_left
   ·intro w'
    go_simp
    with_reducible rfl
   rotate_left
   ·exact aP
   refine one_ (i := 10) (N := some 54) #[tt, tt, tt, tt, tt, tt, tt, tt, tt, tt, tt, ff, tt, tt, ff, tt, ff, ff] rfl rfl (one_of HT_.out (by kernel_rfl)) (by decide) (fun K hK => ?_)
   refine goes_ Try.func52 (by kernel_rfl) rfl #[.int .u64 (IntKind.u64.wrap ((a0_3.size : Int)))] (by rfl) rfl rfl aO ?_
   with_reducible refine (word_Put.calls k1 (IntKind.u64.wrap ((a0_3.size : Int))) t296 _ A26.out).mono ?_
   rintro e w33 ⟨rfl, hb⟩
   refine ⟨_, rfl, ?_⟩
   replace HO_5 := as_ (Kd.R_below (by (with_reducible repeat (first | apply Kd.R_alloc | apply Kd.R_drewN | apply Kd.R_drew)); exact HO_5.out) hb)
   replace HO_6 := as_ (Kd.R_below (by (with_reducible repeat (first | apply Kd.R_alloc | apply Kd.R_drewN | apply Kd.R_drew)); exact HO_6.out) hb)
   replace BK278 := bb BK278 hb
   replace HB := as_ (below_step bA hb)
   (try clear hb)
   (try clear hb2)
   (try clear hk)
   (try clear hi)
   refine hK.out _ _ ⟨(blk_cell BK278.out 0).trans rfl, (blk_cell BK278.out 1).trans rfl, (blk_cell BK278.out 2).trans rfl, (blk_cell BK278.out 3).trans rfl, (blk_cell BK278.out 4).trans rfl, (blk_cell BK278.out 5).trans rfl⟩ (fun hHeld => ?_)
   clear hK K
   refine norm_ (a' := ?_) ?_ ?_
   rotate_left
   ·show Act.put _ (some 54) _ = _
    simp only [Act.put, List.setIfInBounds_toArray, List.set_cons_zero, List.set_cons_succ, i64_w, i32_w]
    rfl
   refine pure_ (i := 11) (N := some 55) (v := ?_) (a' := ?_) #[tt, tt, tt, tt, tt, tt, tt, tt, tt, tt, tt, tt, tt, tt, ff, tt, ff, ff] rfl rfl (any_of HT_.out (by kernel_rfl)) (fun _ _ _ h => h) (Or.inl ⟨by rfl, ?_⟩) ?_ ?_
   rotate_left
   ·intro w'
    go_simp
    with_reducible rfl
   rotate_left
   ·exact aP
   refine pure_ (i := 14) (N := some 58) (v := ?_) (a' := ?_) #[tt, tt, tt, tt, tt, tt, tt, tt, tt, tt, tt, tt, tt, tt, tt, tt, ff, ff] rfl rfl (any_of HT_.out (by kernel_rfl)) (fun _ _ _ h => h) (Or.inl ⟨by rfl, ?_⟩) ?_ ?_
   rotate_left
   ·intro w'
    go_simp
    with_reducible rfl
   rotate_left
   ·exact aP
   refine pure_ (i := 16) (N := some 2) (v := ?_) (a' := ?_) #[tt, tt, tt, tt, tt, tt, tt, tt, tt, tt, tt, tt, tt, tt, tt, tt, tt, ff] rfl rfl (any_of HT_.out (by kernel_rfl)) (fun _ _ _ h => h) (Or.inl ⟨by rfl, ?_⟩) ?_ ?_
   rotate_left
   ·intro w'
    go_simp
    with_reducible rfl
   rotate_left
   ·exact aP
   refine pure_ (i := 17) (N := some 3) (v := ?_) (a' := ?_) #[tt, tt, tt, tt, tt, tt, tt, tt, tt, tt, tt, tt, tt, tt, tt, tt, tt, tt] rfl rfl (any_of HT_.out (by kernel_rfl)) (fun _ _ _ h => h) (Or.inl ⟨by rfl, ?_⟩) ?_ ?_
   rotate_left
   ·intro w'
    go_simp
    with_reducible rfl
   rotate_left
   ·exact aP
   refine done_ (done_of HT_.out (by kernel_rfl)) ?_
   try go_wp2
   go_ret2
   exact ⟨_, by first | rfl | (simp [errW_none, errW_some] <;> rfl) | (simp only [← hjs25, ← hjs28, ← hjs30]; first | rfl | (simp [errW_none, errW_some] <;> rfl)) | (simp [*, errW_none, errW_some] <;> rfl), by (with_reducible repeat (first | apply Kd.R_alloc | apply Kd.R_drewN | apply Kd.R_drew)); exact Kd.R_mono HO_6.out (fun _ hk => trivial), by repeat (first | (with_reducible first | exact HB.out | apply below_alloc | apply pw_below_drewN | apply below_drew1 | refine below_set ?_ GE278.out) | exact HB.out)⟩
-- NOT PRINTED: function 96 (abi_NoEscape)

-- NOT PRINTED: function 87 (strings_Builder_copyCheck)

-- NOT PRINTED: function 97 (bytealg_MakeNoZero)

-- NOT PRINTED: function 88 (strings_Builder_grow)

-- NOT PRINTED: function 71 (strings_Builder_Grow)

-- NOT PRINTED: function 72 (strings_Builder_WriteString)

-- NOT PRINTED: function 74 (strings_Builder_String)

/-! ### strings_Join: function 68, by hand -/
theorem addr_plain_of_cell {W : World} {a : Addr} {v : Value} (h : W.cell? a = some v) : a = ⟨a.block, a.off, none⟩ := by
 obtain ⟨b, o, s⟩ := a
 cases s with
 | none => rfl
 | some x =>
  exfalso
  simp only [World.cell?] at h
  split at h
  ·simp at h
  ·cases h
def strings_Join.f (l0 : List ByteArray) (a1 : ByteArray) : Option (ByteArray) := if (Lib.join (l0.map (·.data.toList)) a1.data.toList).length ≤ 140737488355328 then (if l0.length ≤ 140737488355328 then (some (⟨(Lib.join (l0.map (·.data.toList)) a1.data.toList).toArray⟩ : ByteArray)) else (none)) else (none)
theorem strings_Join.calls (A0 : Option Addr) (c0 : Nat) (l0 : List ByteArray) (a1 : ByteArray) (r : ByteArray) (w : World) (hr0 : Kd.C Kd.string w A0 l0.length l0) (hc0 : l0.length ≤ c0) (h : strings_Join.f l0 a1 = some r) :
  Calls Try.prog 68 #[.slice A0 l0.length c0, .string a1] w fun e w' => e = .returned (.string r) ∧ Below w.heap.size w w' := by
 unfold strings_Join.f at h
 by_cases h1 : (Lib.join (l0.map (·.data.toList)) a1.data.toList).length ≤ 140737488355328
 rotate_left
 ·rw [if_neg h1] at h
  cases h
 
 
 by_cases h2 : l0.length ≤ 140737488355328
 rotate_left
 ·rw [if_pos h1, if_neg h2] at h
  cases h
 rw [if_pos h1, if_pos h2] at h
 injection h with h
 subst h
 rcases Nat.eq_zero_or_pos l0.length with h0 | h0
 ·have : l0 = [] := List.eq_nil_of_length_eq_zero h0
  subst this
  exact (Try.strings_Join_none A0 c0 a1 w).mono fun e w' ⟨he, hw⟩ => ⟨he, hw ▸ Below.refl _ _⟩
 obtain ⟨ad, e, hc⟩ := hr0.2.2 h0
 have hcell : ∀ (j : Nat) (x : ByteArray), l0[j]? = some x → w.cell? (ad.add j) = some (.string x) := by
  intro j x hx
  obtain ⟨c, hl, hk, hcc⟩ := hc j x hx
  have hk' : c = [Value.string x] := hk
  subst hk'
  have := hcc 0 _ rfl
  rwa [Nat.add_zero, show (Kd.string).sz = 1 from rfl, Nat.mul_one] at this
 obtain ⟨x0, hx0⟩ : ∃ x0, l0[0]? = some x0 := ⟨_, List.getElem?_eq_getElem h0⟩
 have h00 := hcell 0 x0 hx0
 rw [Addr.add_zero'] at h00
 have hp := addr_plain_of_cell h00
 have hlt := World.block_lt_of_cell? w ad h00
 obtain ⟨b, o, s⟩ := ad
 have hs : s = none := by injection hp
 subst hs
 subst e
 exact Try.strings_Join b o c0 l0 a1 w (fun j x hx => by have h3 := hcell j x hx; rwa [Go.WideShapes.add_plain] at h3) hlt h2 hc0 h1
/-! ### slot_Size: function 53 -/
def slot_Size.f (a0 : ByteArray) (l1 : List ByteArray) : Option (Int) := (strings_Join.f l1 (⟨#[]⟩ : ByteArray)).bind fun t297 => (some (wrap64 ((wrap64 ((a0.size : Int) + (t297.size : Int))) + (wrap64 (2 * (wrap64 ((l1.length : Int) + 1)))))))
set_option maxHeartbeats 8000000 in
set_option maxRecDepth 100000 in
theorem slot_Size.calls (a0 : ByteArray) (A1 : Option Addr) (c1 : Nat) (l1 : List ByteArray) (r : Int) (w : World) (hr1 : Kd.C Kd.string w A1 l1.length l1) (hc1 : l1.length ≤ c1) (h : slot_Size.f a0 l1 = some r) :
  Calls Try.prog 53 #[.string a0, .slice A1 l1.length c1] w fun e w' => e = .returned (.int .i64 r) ∧ Below w.heap.size w w' := by
 have HR1 := Aside0.mk hr1
 have HC1 := Aside0.mk hc1
 clear hr1 hc1
 have HB := as_ (Below.refl w.heap.size w)
 have H : ((strings_Join.f l1 (⟨#[]⟩ : ByteArray)).bind fun t297 => (some (wrap64 ((wrap64 ((a0.size : Int) + (t297.size : Int))) + (wrap64 (2 * (wrap64 ((l1.length : Int) + 1)))))))) = some r := h
 clear h
 replace H := bM H
 obtain ⟨t297, A30, H⟩ := H
 replace H : (some (wrap64 ((wrap64 ((a0.size : Int) + (t297.size : Int))) + (wrap64 (2 * (wrap64 ((l1.length : Int) + 1))))))) = some r := H
 have A3 := Aside0.mk A30
 clear A30
 obtain rfl := Option.some.inj H
 go_enter Try.func53, Try.ntmps53
 go_wp2_with (first | ((with_reducible refine gate_callee (f := 68) rfl ?_); refine goesL_ (some 8) rfl rfl Try.func68 (by kernel_rfl) rfl #[.slice A1 l1.length c1, .string (⟨#[]⟩ : ByteArray)] rfl aO ?_; (with_reducible refine (strings_Join.calls _ _ l1 (⟨#[]⟩ : ByteArray) t297 _ ?side1 ?side2 A3.out).mono ?_); (case side1 => repeat (first | exact HR1.out | (with_reducible refine Kd.C_alloc ?_ _) | (with_reducible refine Kd.C_drewN ?_ _) | (with_reducible refine Kd.C_drew ?_))); (case side2 => exact HC1.out); rintro e w4 ⟨rfl, hb⟩; refine ⟨_, rfl, ?_⟩; replace HB := as_ (below_step bA hb); (try clear hb); (try clear hb2); (try clear hk); (try clear hi)))
 go_ret
 exact ⟨eW, by repeat (first | (with_reducible first | exact HB.out | apply below_alloc | apply pw_below_drewN | apply below_drew1) | exact HB.out)⟩

/-! ### inner_Size: function 46 -/
def inner_Size.f (k : Nat) (a0_0 : Int) (a0_1 : Int) (a0_2 : Int) (a0_3 : ByteArray) (l0_4 : List Int) (l0_5 : List ByteArray) : Option (Int) := (inner_parts.f k a0_0 a0_1 a0_2 a0_3 l0_4 l0_5).bind fun bt299 => ((slot_Size.f bt299.1 bt299.2).bind fun t303 => (some t303))
theorem inner_Size.mono : ∀ a0 a1 a2 a3 a4 a5 k, LeO (inner_Size.f k a0 a1 a2 a3 a4 a5) (inner_Size.f (k + 1) a0 a1 a2 a3 a4 a5) := by
 intro a0 a1 a2 a3 a4 a5 k
 unfold inner_Size.f
 repeat' first
   | (with_reducible exact inner_parts.mono _ _ _ _ _ _ _)
   | (with_reducible exact LeO.refl _)
   | (with_reducible exact LeO.none _)
   | (with_reducible refine LeO.ite ?_ ?_)
   | (with_reducible refine LeO.bind ?_ (fun _ => ?_))
   | exact inner_parts.mono _ _ _ _ _ _ _
   | exact LeO.none _
   | refine LeO.ite ?_ ?_
   | refine LeO.bind ?_ (fun _ => ?_)
set_option maxHeartbeats 8000000 in
set_option maxRecDepth 100000 in
theorem inner_Size.calls (k : Nat) (a0_0 : Int) (a0_1 : Int) (a0_2 : Int) (a0_3 : ByteArray) (A0_4 : Option Addr) (c0_4 : Nat) (l0_4 : List Int) (A0_5 : Option Addr) (c0_5 : Nat) (l0_5 : List ByteArray) (r : Int) (w : World) (hr0_4 : Kd.C (Kd.int .i64) w A0_4 l0_4.length l0_4) (hc0_4 : l0_4.length ≤ c0_4) (hr0_5 : Kd.C Kd.string w A0_5 l0_5.length l0_5) (hc0_5 : l0_5.length ≤ c0_5) (h : inner_Size.f k a0_0 a0_1 a0_2 a0_3 l0_4 l0_5 = some r) :
  Calls Try.prog 46 #[.agg #[.int .i64 a0_0, .int .i64 a0_1, .int .i64 a0_2, .string a0_3, .slice A0_4 l0_4.length c0_4, .slice A0_5 l0_5.length c0_5]] w fun e w' => e = .returned (.int .i64 r) ∧ Below w.heap.size w w' := by
 have hu50 := Try.underlying50
 have HR0_4 := Aside0.mk hr0_4
 have HC0_4 := Aside0.mk hc0_4
 clear hr0_4 hc0_4
 have HR0_5 := Aside0.mk hr0_5
 have HC0_5 := Aside0.mk hc0_5
 clear hr0_5 hc0_5
 have HB := as_ (Below.refl w.heap.size w)
 have H : ((inner_parts.f k a0_0 a0_1 a0_2 a0_3 l0_4 l0_5).bind fun bt299 => ((slot_Size.f bt299.1 bt299.2).bind fun t303 => (some t303))) = some r := h
 clear h
 replace H := bM H
 obtain ⟨⟨t299, t300⟩, A20, H⟩ := H
 replace H : ((slot_Size.f t299 t300).bind fun t303 => (some t303)) = some r := H
 have A2 := Aside0.mk A20
 clear A20
 replace H := bM H
 obtain ⟨t303, A30, H⟩ := H
 replace H : (some t303) = some r := H
 have A3 := Aside0.mk A30
 clear A30
 obtain rfl := Option.some.inj H
 go_enter Try.func46, Try.ntmps46
 go_wp2_with (first | ((with_reducible refine gate_dst (N := 1) rfl ?_); refine box_event (by rfl) (N := 1) (by rfl) (cs := #[.int .i64 a0_0, .int .i64 a0_1, .int .i64 a0_2, .string a0_3, .slice A0_4 l0_4.length c0_4, .slice A0_5 l0_5.length c0_5]) (t := 50) gS ?_; intro gb298 hg w4 hbox hb; have BK298 := as_ (hbox); have GW298 := gw hg bA; have GE298 := gw hg bA; replace HB := as_ (below_step bA hb); clear hb hbox hg; obtain ⟨hcz5_0, hcz5_1, hcz5_2, hcz5_3, hcz5_4, hcz5_5⟩ := zc6 BK298; obtain ⟨hfz5_0, hfz5_1, hfz5_2, hfz5_3, hfz5_4, hfz5_5⟩ := zf6 BK298) | ((with_reducible refine gate_callee (f := 40) rfl ?_); refine goesL_ (some 7) rfl rfl Try.func40 (by kernel_rfl) rfl #[.agg #[.int .i64 a0_0, .int .i64 a0_1, .int .i64 a0_2, .string a0_3, .slice A0_4 l0_4.length c0_4, .slice A0_5 l0_5.length c0_5]] rfl aO ?_; (with_reducible refine (inner_parts.calls k a0_0 a0_1 a0_2 a0_3 _ _ l0_4 _ _ l0_5 t299 t300 _ ?side1 ?side2 ?side3 ?side4 A2.out).mono ?_); (case side1 => repeat (first | exact (Kd.C_below HR0_4.out HB.out) | (with_reducible refine Kd.C_alloc ?_ _) | (with_reducible refine Kd.C_drewN ?_ _) | (with_reducible refine Kd.C_drew ?_))); (case side2 => exact HC0_4.out); (case side3 => repeat (first | exact (Kd.C_below HR0_5.out HB.out) | (with_reducible refine Kd.C_alloc ?_ _) | (with_reducible refine Kd.C_drewN ?_ _) | (with_reducible refine Kd.C_drew ?_))); (case side4 => exact HC0_5.out); rintro e w6 ⟨v301, rfl, ho0, hb⟩; refine ⟨_, rfl, ?_⟩; have HO302 := as_ (Kd.R_lower ho0 (below_size bA)); replace BK298 := bb BK298 hb; replace HB := as_ (below_step bA hb); (try clear hb); (try clear hb2); (try clear hk); (try clear hi); (try clear ho0); obtain ⟨Ao7, co7, eo7⟩ := Kd.R_slice HO302.out; subst eo7) | ((with_reducible refine gate_callee (f := 53) rfl ?_); refine goesL_ (some 12) rfl rfl Try.func53 (by kernel_rfl) rfl #[.string t299, .slice Ao7 t300.length co7] rfl aO ?_; (with_reducible refine (slot_Size.calls t299 _ _ t300 t303 _ ?side1 ?side2 A3.out).mono ?_); (case side1 => repeat (first | exact (Kd.R_reads' HO302.out).2.2 | (with_reducible refine Kd.C_alloc ?_ _) | (with_reducible refine Kd.C_drewN ?_ _) | (with_reducible refine Kd.C_drew ?_))); (case side2 => exact (Kd.R_reads' HO302.out).2.1); rintro e w8 ⟨rfl, hb⟩; refine ⟨_, rfl, ?_⟩; replace HO302 := as_ (Kd.R_below (by (with_reducible repeat (first | apply Kd.R_alloc | apply Kd.R_drewN | apply Kd.R_drew)); exact HO302.out) hb); replace BK298 := bb BK298 hb; replace HB := as_ (below_step bA hb); (try clear hb); (try clear hb2); (try clear hk); (try clear hi)))
 go_ret
 exact ⟨eW, by repeat (first | (with_reducible first | exact HB.out | apply below_alloc | apply pw_below_drewN | apply below_drew1 | refine below_set ?_ GE298.out) | exact HB.out)⟩

end Go.Proofs.Ytfialmegikegbaa.P
