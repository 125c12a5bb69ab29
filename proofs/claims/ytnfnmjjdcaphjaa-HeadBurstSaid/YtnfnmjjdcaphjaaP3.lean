/- What is proved here: for functions of the Go text, a Lean function each, and that the call comes to just what it answers. Conditions: as each contract names them. Written by wip/tools/myprint.py, a driver of the print of the kit. -/
import Derived.Test.YtnfnmjjdcaphjaaP0
import Derived.Test.YtnfnmjjdcaphjaaWAbbr
namespace Go.Proofs.Ytnfnmjjdcaphjaa.P
open Go.RowKit Go.Proofs.YtnfnmjjdcaphjaaW.PrintWords Go.Proofs.YtnfnmjjdcaphjaaW.PrintLast Go.Proofs.YtnfnmjjdcaphjaaW.PrintMore Go.Proofs.YtnfnmjjdcaphjaaW.Abbr
-- PACKED
attribute [local go_sem] max2_int min2_int max_two min_two max_three min_three max_four min_four Go.Proofs.YtnfnmjjdcaphjaaLaws.str_leq Go.Proofs.YtnfnmjjdcaphjaaLaws.str_gtr Go.Proofs.YtnfnmjjdcaphjaaLaws.str_geq Go.Proofs.YtnfnmjjdcaphjaaLaws.max2_str Go.Proofs.YtnfnmjjdcaphjaaLaws.min2_str   -- for this text's walks alone
set_option linter.unusedVariables false
set_option linter.unusedSimpArgs false

/-! ### head_bytes: function 22 -/
def head_bytes.l0 : Nat → List Int → List Int → Int → Int → Option (ByteArray)
 | 0, _, _, _, _ => none
 | k + 1, x3, x6, x7, x8 => if x8 < x7 then (if 0 ≤ x8 then (if x8 < (x6.length : Int) then (if x3.length < 140737488355328 then (head_bytes.l0 k (x3 ++ [(rd x6 x8) % 256]) x6 x7 (wrap64 (x8 + 1))) else (none)) else (none)) else (none)) else (some (strOfNums x3))
def head_bytes.f (k : Nat) (l0 : List Int) : Option (ByteArray) := head_bytes.l0 k ([] : List Int) l0 (l0.length : Int) 0
theorem head_bytes.mono_l : ∀ k, (∀ y0 y1 y2 y3, LeO (head_bytes.l0 k y0 y1 y2 y3) (head_bytes.l0 (k + 1) y0 y1 y2 y3))
 | 0 => fun _ _ _ _ r h => by simp [head_bytes.l0] at h
 | k + 1 => by
  have ih0 := head_bytes.mono_l k
  ·intro y0 y1 y2 y3
   unfold head_bytes.l0
   repeat' first
   | (with_reducible exact ih0 _ _ _ _)
   | (with_reducible exact LeO.refl _)
   | (with_reducible exact LeO.none _)
   | (with_reducible refine LeO.ite ?_ ?_)
   | (with_reducible refine LeO.bind ?_ (fun _ => ?_))
   | exact ih0 _ _ _ _
   | exact LeO.none _
   | refine LeO.ite ?_ ?_
   | refine LeO.bind ?_ (fun _ => ?_)
theorem head_bytes.mono : ∀ a0 k, LeO (head_bytes.f k a0) (head_bytes.f (k + 1) a0) := by
 intro a0 k
 have ih0 := head_bytes.mono_l k
 unfold head_bytes.f
 repeat' first
   | (with_reducible exact ih0 _ _ _ _)
   | (with_reducible exact LeO.refl _)
   | (with_reducible exact LeO.none _)
   | (with_reducible refine LeO.ite ?_ ?_)
   | (with_reducible refine LeO.bind ?_ (fun _ => ?_))
   | exact ih0 _ _ _ _
   | exact LeO.none _
   | refine LeO.ite ?_ ?_
   | refine LeO.bind ?_ (fun _ => ?_)
set_option maxHeartbeats 8000000 in
set_option maxRecDepth 100000 in
theorem head_bytes.calls (k : Nat) (A0 : Option Addr) (c0 : Nat) (l0 : List Int) (r : ByteArray) (w : World) (hr0 : Kd.C (Kd.int .i64) w A0 l0.length l0) (hc0 : l0.length ≤ c0) (h : head_bytes.f k l0 = some r) :
  Calls Try.prog 22 #[.slice A0 l0.length c0] w fun e w' => e = .returned (.string r) ∧ Below w.heap.size w w' := by
 have HR0 := Aside0.mk hr0
 have HC0 := Aside0.mk hc0
 clear hr0 hc0
 have HB := as_ (Below.refl w.heap.size w)
 have H : (head_bytes.l0 k ([] : List Int) l0 (l0.length : Int) 0) = some r := h
 clear h
 have H' := Aside0.mk H
 clear H
 go_enter Try.func22, Try.ntmps22
 go_wp2
 go_loopg [3, 8] k (fun kq v3 v8 w' => ∃ (x3_1 : List Int) (x8_1 : Int), v8 = .int .i64 x8_1 ∧ Aside0 (head_bytes.l0 kq x3_1 l0 (l0.length : Int) x8_1 = some r) ∧ Aside0 (kq ≤ k) ∧ Aside0 (Kd.R (Kd.int .u8) 5 w' w.heap.size (fun _ => True) v3 x3_1) ∧ Aside0 (Below w.heap.size w w'))
 case atStart => exact ⟨(([] : List Int)), (0), (by first | rfl | (simp; done) | (simp [*]; done)), H', ⟨Nat.le_refl _⟩, ⟨by first | exact Kd.R_nil _ _ _ _ _ | exact Kd.N_nil _ _ _ _ _ | exact Kd.V_nil _ _ _ _ _ | exact Kd.Q_nil _ _ _ _ _ | exact Kd.S_nil _ _ _ _ _⟩, ⟨by repeat (first | (with_reducible first | exact HB.out | apply below_alloc | apply pw_below_drewN | apply below_drew1) | exact HB.out)⟩⟩
 case round =>
  clear H'
  obtain ⟨x3_1, x8_1, rfl, HA, HK1, HO_3, HB⟩ := hrel
  cases gk with
  | zero => exact absurd HA.out (by simp [head_bytes.l0])
  | succ k1 =>
   have H := HA.out
   clear HA
   simp only [head_bytes.l0] at H
   by_cases c2 : x8_1 < (l0.length : Int)
   rotate_left
   ·rw [if_neg c2] at H
    have c2b0 : decide (x8_1 < (l0.length : Int)) = false := decide_eq_false c2
    clear c2
    obtain rfl := Option.some.inj H
    have hcv7 := own_string (P := Try.prog) Try.underlying44 Try.underlying5 Try.underlying9 (Kd.own_of_R HO_3.out)
    go_wp2
    go_ret
    exact ⟨eW, by repeat (first | (with_reducible first | exact HB.out | apply below_alloc | apply pw_below_drewN | apply below_drew1) | exact HB.out)⟩
 
   rw [if_pos c2] at H
   have c2b0 : decide (x8_1 < (l0.length : Int)) = true := decide_eq_true c2
   clear c2
   by_cases c3 : 0 ≤ x8_1
   rotate_left
   ·rw [if_neg c3] at H
    exact absurd H (by simp)
   rw [if_pos c3] at H
   have c3b0 : decide (0 ≤ x8_1) = true := decide_eq_true c3
   clear c3
   by_cases c4 : x8_1 < (l0.length : Int)
   rotate_left
   ·rw [if_neg c4] at H
    exact absurd H (by simp)
   rw [if_pos c4] at H
   have c4b0 : decide (x8_1 < (l0.length : Int)) = true := decide_eq_true c4
   clear c4
   by_cases c5 : x3_1.length < 140737488355328
   rotate_left
   ·rw [if_neg c5] at H
    exact absurd H (by simp)
   rw [if_pos c5] at H
   have LMc5 := Aside0.mk c5
   clear c5
   obtain ⟨y124, hy124⟩ : ∃ y_ : List Int, y_ = (x3_1 ++ [(rd l0 x8_1) % 256]) := ⟨_, rfl⟩
   replace H : (head_bytes.l0 k1 y124 l0 (l0.length : Int) (wrap64 (x8_1 + 1))) = some r := by first | (rw [hy124]; with_reducible exact H) | (have H2_ := (Option.bind_some _ _).symm.trans H; rw [hy124]; with_reducible exact H2_) | (have H2_ := (Option.bind_some _ _).symm.trans H; with_reducible exact H2_) | with_reducible exact H | (rw [hy124]; exact H) | exact H
   have Ny124 := Aside0.mk hy124
   clear hy124
   have H' := Aside0.mk H
   clear H
   have p123 : 0 ≤ (x8_1 : Int) := of_decide_eq_true aM
   have q123 : x8_1 < (l0.length : Int) := of_decide_eq_true aM
   obtain ⟨ad123, e123, hx123_0⟩ := Kd.at_int HR0.out x8_1 p123 q123
   cases e123
   replace hx123_0 := (HB.out.cell (World.block_lt_of_cell? w _ hx123_0)).trans hx123_0
   replace p123 := eq_true p123
   replace q123 := eq_true q123
   go_wp2_with (first | ((with_reducible refine gate_builtin (b := .append) (xs := #[.tmp 12, .tmp 15]) rfl ?_); at_builtin; refine Kd.R_append (Kd.int .u8) (w0 := w) w.heap.size rfl (.tmp 12) (.tmp 15) 44 5 (.int .u8 0) 1 rfl Try.underlying44 info5 rfl (by decide) (by omega) u3 x3_1 ((rd l0 x8_1) % 256) [.int .u8 ((rd l0 x8_1) % 256)] (fun _ => True) (fun _ => False) rfl rfl ?aP (fun _ hk => hk.elim) ?aF ?aO ?aB ?aS ?aL ?_; (case aP => exact rfl); (case aB => exact bA); (case aF => exact (fun _ _ => trivial)); (case aO => exact (by (with_reducible repeat (first | apply Kd.R_alloc | apply Kd.R_drewN | apply Kd.R_drew)); exact HO_3.out)); (case aS => exact (below_size bA)); (case aL => have := LMc5.out; omega); intro v125 w6 ho hb hg hat; rw [← Ny124.out] at ho; have HO126 := as_ (ho); replace HB := as_ (hb); clear HO_3; clear ho hb hg hat))
   go_roundg k1
   case measure => have := HK1.out; omega
   case rel => exact ⟨(y124), (wrap64 (x8_1 + 1)), (by first | rfl | (simp; done) | (simp [*]; done)), H', ⟨by have := HK1.out; omega⟩, ⟨by (with_reducible repeat (first | apply Kd.R_alloc | apply Kd.R_drewN | apply Kd.R_drew)); exact HO126.out⟩, ⟨by repeat (first | (with_reducible first | exact HB.out | apply below_alloc | apply pw_below_drewN | apply below_drew1) | exact HB.out)⟩⟩
/-! ### word_Four: function 23, by hand -/
def word_Four.f (a0 : Int) : Option (ByteArray) := some (strOfNums ([a0 % 256, (a0 / 256) % 256, (a0 / 65536) % 256, (a0 / 16777216) % 256] : List Int))
theorem four_index (W : World) (g : Nat) (i : Int) (n : Nat) (h : (i = 0 ∧ n = 0) ∨ (i = 1 ∧ n = 1) ∨ (i = 2 ∧ n = 2) ∨ (i = 3 ∧ n = 3)) : (Instr.indexAt 41 (.pointer (some ⟨g, 0, none⟩)) (.int .i64 i)).run Try.prog W = .ok (.pointer (some ⟨g, n, none⟩)) W := by
 have hu : Try.prog.underlying 41 = some (.array (Try.prog.arrayLen 41) (Try.prog.elem 41)) := by kernel_rfl
 have hl : Try.prog.arrayLen 41 = 4 := by kernel_rfl
 have he : Try.prog.elem 41 = 5 := by kernel_rfl
 obtain ⟨i0, hi, hz, hz1, _⟩ := info_parts (show (Try.prog.info? 5).map (fun i => (i.zero, i.size, i.bytes)) = some (some (.int .u8 0), 1, 1) by kernel_rfl)
 rw [run_indexAt_array (h := hu), hl, he]
 rcases h with ⟨rfl, rfl⟩ | ⟨rfl, rfl⟩ | ⟨rfl, rfl⟩ | ⟨rfl, rfl⟩ <;> simp [sizeOf, typeInfo, hi, hz1, Result.andThen, Addr.add]
theorem four_slice (W : World) (g : Nat) : (Instr.sliceAt 41 (.pointer (some ⟨g, 0, none⟩)) none none none).run Try.prog W = .ok (.slice (some ⟨g, 0, none⟩) 4 4) W := by
 have hu : Try.prog.underlying 41 = some (.array (Try.prog.arrayLen 41) (Try.prog.elem 41)) := by kernel_rfl
 have hl : Try.prog.arrayLen 41 = 4 := by kernel_rfl
 have he : Try.prog.elem 41 = 5 := by kernel_rfl
 obtain ⟨i0, hi, hz, hz1, _⟩ := info_parts (show (Try.prog.info? 5).map (fun i => (i.zero, i.size, i.bytes)) = some (some (.int .u8 0), 1, 1) by kernel_rfl)
 rw [run_sliceAt_array_all (ht := hu), hl, he]
 simp [sizeOf, typeInfo, hi, hz1, Result.andThen, slicedAt, Addr.add]
theorem four_string (W : World) (g : Nat) (x0 x1 x2 x3 : Int) (h : W.heap[g]? = some (.cells #[.int .u8 x0, .int .u8 x1, .int .u8 x2, .int .u8 x3] 41 (0, 0))) : (convert 44 9 (.slice (some ⟨g, 0, none⟩) 4 4)).run Try.prog W = .ok (.string (strOfNums [x0, x1, x2, x3])) W := by
 refine string_of_reads Try.underlying44 Try.underlying5 Try.underlying9 ?_
 refine ⟨rfl, by omega, fun _ => ⟨⟨g, 0, none⟩, rfl, fun j hj => ?_⟩⟩
 have e : (⟨g, 0, none⟩ : Addr).add j = ⟨g, j, none⟩ := by simp [Addr.add] <;> omega
 rw [e, blk_cell h j]
 match j, hj with
 | 0, _ => rfl
 | 1, _ => rfl
 | 2, _ => rfl
 | 3, _ => rfl
set_option maxHeartbeats 4000000 in
set_option maxRecDepth 100000 in
theorem word_Four.calls (a0 : Int) (r : ByteArray) (w : World) (h : word_Four.f a0 = some r) :
  Calls Try.prog 23 #[.int .u32 a0] w fun e w' => e = .returned (.string r) ∧ Below w.heap.size w w' := by
 have H := as_ (Option.some.inj h)
 clear h
 have HB := as_ (Below.refl w.heap.size w)
 go_enter Try.func23, Try.ntmps23
 go_wp2_with (first | ((with_reducible refine gate_dst (N := 3) rfl ?_); refine box_event (by rfl) (N := 3) (by rfl) (cs := #[.int .u8 0, .int .u8 0, .int .u8 0, .int .u8 0]) (t := 41) gS ?_; intro gb hg w1 hbox hb; have BK := Aside0.mk hbox; have GE := gw hg bA; replace HB := as_ (below_step bA hb); clear hb hbox hg))
 go_loopg [5] 5 (fun kq v5 w' => ∃ x5 : Int, v5 = .int .i64 x5 ∧ Aside0 ((x5 = 0 ∧ kq = 5 ∧ w'.heap[gb]? = some (.cells #[.int .u8 0, .int .u8 0, .int .u8 0, .int .u8 0] 41 (0, 0))) ∨ (x5 = 1 ∧ kq = 4 ∧ w'.heap[gb]? = some (.cells #[.int .u8 (a0 % 256), .int .u8 0, .int .u8 0, .int .u8 0] 41 (0, 0))) ∨ (x5 = 2 ∧ kq = 3 ∧ w'.heap[gb]? = some (.cells #[.int .u8 (a0 % 256), .int .u8 (a0 / 256 % 256), .int .u8 0, .int .u8 0] 41 (0, 0))) ∨ (x5 = 3 ∧ kq = 2 ∧ w'.heap[gb]? = some (.cells #[.int .u8 (a0 % 256), .int .u8 (a0 / 256 % 256), .int .u8 (a0 / 65536 % 256), .int .u8 0] 41 (0, 0))) ∨ (x5 = 4 ∧ kq = 1 ∧ w'.heap[gb]? = some (.cells #[.int .u8 (a0 % 256), .int .u8 (a0 / 256 % 256), .int .u8 (a0 / 65536 % 256), .int .u8 (a0 / 16777216 % 256)] 41 (0, 0)))) ∧ Aside0 (Below w.heap.size w w'))
 case atStart => exact ⟨0, rfl, ⟨.inl ⟨rfl, rfl, BK.out⟩⟩, ⟨HB.out⟩⟩
 case round =>
  obtain ⟨x5, rfl, HX, HB1⟩ := hrel
  clear HB BK
  have HB := HB1
  clear HB1
  rcases HX.out with ⟨rfl, rfl, hb⟩ | ⟨rfl, rfl, hb⟩ | ⟨rfl, rfl, hb⟩ | ⟨rfl, rfl, hb⟩ | ⟨rfl, rfl, hb⟩
  ·have BK := Aside0.mk hb
   clear hb HX
   have hix : ∀ W : World, (Instr.indexAt 41 (.pointer (some ⟨gb, 0, none⟩)) (.int .i64 0)).run Try.prog W = .ok (.pointer (some ⟨gb, 0, none⟩)) W := fun W => four_index W gb _ _ (by omega)
   have hc : wr.cell? ⟨gb, 0, none⟩ = some (.int .u8 0) := (blk_cell BK.out 0).trans rfl
   have hf := blk_frozen BK.out 0
   go_wp2
   go_roundg 4
   case measure => omega
   case rel => exact ⟨1, rfl, ⟨.inr (.inl ⟨rfl, rfl, by first | exact blk_put BK.out 0 _ rfl | (rw [four_shr0] at *; exact blk_put BK.out 0 _ rfl)⟩)⟩, ⟨by repeat (first | exact HB.out | apply below_alloc | apply pw_below_drewN | apply below_drew1 | refine below_set ?_ GE.out)⟩⟩
  ·have BK := Aside0.mk hb
   clear hb HX
   have hix : ∀ W : World, (Instr.indexAt 41 (.pointer (some ⟨gb, 0, none⟩)) (.int .i64 1)).run Try.prog W = .ok (.pointer (some ⟨gb, 1, none⟩)) W := fun W => four_index W gb _ _ (by omega)
   have hc : wr.cell? ⟨gb, 1, none⟩ = some (.int .u8 0) := (blk_cell BK.out 1).trans rfl
   have hf := blk_frozen BK.out 1
   go_wp2
   go_roundg 3
   case measure => omega
   case rel => exact ⟨2, rfl, ⟨.inr (.inr (.inl ⟨rfl, rfl, by first | exact blk_put BK.out 1 _ rfl | (rw [four_shr1] at *; exact blk_put BK.out 1 _ rfl)⟩))⟩, ⟨by repeat (first | exact HB.out | apply below_alloc | apply pw_below_drewN | apply below_drew1 | refine below_set ?_ GE.out)⟩⟩
  ·have BK := Aside0.mk hb
   clear hb HX
   have hix : ∀ W : World, (Instr.indexAt 41 (.pointer (some ⟨gb, 0, none⟩)) (.int .i64 2)).run Try.prog W = .ok (.pointer (some ⟨gb, 2, none⟩)) W := fun W => four_index W gb _ _ (by omega)
   have hc : wr.cell? ⟨gb, 2, none⟩ = some (.int .u8 0) := (blk_cell BK.out 2).trans rfl
   have hf := blk_frozen BK.out 2
   go_wp2
   go_roundg 2
   case measure => omega
   case rel => exact ⟨3, rfl, ⟨.inr (.inr (.inr (.inl ⟨rfl, rfl, by first | exact blk_put BK.out 2 _ rfl | (rw [four_shr2] at *; exact blk_put BK.out 2 _ rfl)⟩)))⟩, ⟨by repeat (first | exact HB.out | apply below_alloc | apply pw_below_drewN | apply below_drew1 | refine below_set ?_ GE.out)⟩⟩
  ·have BK := Aside0.mk hb
   clear hb HX
   have hix : ∀ W : World, (Instr.indexAt 41 (.pointer (some ⟨gb, 0, none⟩)) (.int .i64 3)).run Try.prog W = .ok (.pointer (some ⟨gb, 3, none⟩)) W := fun W => four_index W gb _ _ (by omega)
   have hc : wr.cell? ⟨gb, 3, none⟩ = some (.int .u8 0) := (blk_cell BK.out 3).trans rfl
   have hf := blk_frozen BK.out 3
   go_wp2
   go_roundg 1
   case measure => omega
   case rel => exact ⟨4, rfl, ⟨.inr (.inr (.inr (.inr (⟨rfl, rfl, by first | exact blk_put BK.out 3 _ rfl | (rw [four_shr3] at *; exact blk_put BK.out 3 _ rfl)⟩))))⟩, ⟨by repeat (first | exact HB.out | apply below_alloc | apply pw_below_drewN | apply below_drew1 | refine below_set ?_ GE.out)⟩⟩
  ·have BK := Aside0.mk hb
   clear hb HX
   have hsl := fun W => four_slice W gb
   have hst := four_string wr gb _ _ _ _ BK.out
   go_wp2
   go_ret
   exact ⟨by rw [← H.out]; rfl, by repeat (first | exact HB.out | apply below_alloc | apply pw_below_drewN | apply below_drew1 | refine below_set ?_ GE.out)⟩


/-! ### bits_Mul32: function 48 -/
def bits_Mul32.f (a0 : Int) (a1 : Int) : Option (Int × Int) := some (((IntKind.u64.wrap ((IntKind.u64.wrap (a0)) * (IntKind.u64.wrap (a1)))) / 4294967296) % 4294967296, (IntKind.u64.wrap ((IntKind.u64.wrap (a0)) * (IntKind.u64.wrap (a1)))) % 4294967296)
set_option maxHeartbeats 8000000 in
set_option maxRecDepth 100000 in
theorem bits_Mul32.calls (a0 : Int) (a1 : Int) (r1 : Int) (r2 : Int) (w : World) (h : bits_Mul32.f a0 a1 = some (r1, r2)) :
  Calls Try.prog 48 #[.int .u32 a0, .int .u32 a1] w fun e w' => e = .returned (.tuple #[.int .u32 r1, .int .u32 r2]) ∧ Drawn0 w w' := by
 have H : (some (((IntKind.u64.wrap ((IntKind.u64.wrap (a0)) * (IntKind.u64.wrap (a1)))) / 4294967296) % 4294967296, (IntKind.u64.wrap ((IntKind.u64.wrap (a0)) * (IntKind.u64.wrap (a1)))) % 4294967296)) = some (r1, r2) := h
 clear h
 simp only [Option.some.injEq, Prod.mk.injEq] at H
 obtain ⟨rfl, rfl⟩ := H
 go_enter Try.func48, Try.ntmps48
 go_wp2
 go_ret2
 exact ⟨by first | rfl | (simp; done) | (simp [*]; done), by repeat (first | exact Drawn0.refl _ | apply Drawn0.step)⟩

/-! ### bits_Mul64: function 49 -/
def bits_Mul64.f (a0 : Int) (a1 : Int) : Option (Int × Int) := some (IntKind.u64.wrap ((IntKind.u64.wrap ((IntKind.u64.wrap ((a0 / 4294967296) * (a1 / 4294967296))) + ((IntKind.u64.wrap ((IntKind.u64.wrap ((a0 / 4294967296) * (Go.bits .and .u64 a1 4294967295))) + ((IntKind.u64.wrap ((Go.bits .and .u64 a0 4294967295) * (Go.bits .and .u64 a1 4294967295))) / 4294967296))) / 4294967296))) + ((IntKind.u64.wrap ((Go.bits .and .u64 (IntKind.u64.wrap ((IntKind.u64.wrap ((a0 / 4294967296) * (Go.bits .and .u64 a1 4294967295))) + ((IntKind.u64.wrap ((Go.bits .and .u64 a0 4294967295) * (Go.bits .and .u64 a1 4294967295))) / 4294967296))) 4294967295) + (IntKind.u64.wrap ((Go.bits .and .u64 a0 4294967295) * (a1 / 4294967296))))) / 4294967296)), IntKind.u64.wrap (a0 * a1))
set_option maxHeartbeats 8000000 in
set_option maxRecDepth 100000 in
theorem bits_Mul64.calls (a0 : Int) (a1 : Int) (r1 : Int) (r2 : Int) (w : World) (h : bits_Mul64.f a0 a1 = some (r1, r2)) :
  Calls Try.prog 49 #[.int .u64 a0, .int .u64 a1] w fun e w' => e = .returned (.tuple #[.int .u64 r1, .int .u64 r2]) ∧ Drawn0 w w' := by
 have H : (some (IntKind.u64.wrap ((IntKind.u64.wrap ((IntKind.u64.wrap ((a0 / 4294967296) * (a1 / 4294967296))) + ((IntKind.u64.wrap ((IntKind.u64.wrap ((a0 / 4294967296) * (Go.bits .and .u64 a1 4294967295))) + ((IntKind.u64.wrap ((Go.bits .and .u64 a0 4294967295) * (Go.bits .and .u64 a1 4294967295))) / 4294967296))) / 4294967296))) + ((IntKind.u64.wrap ((Go.bits .and .u64 (IntKind.u64.wrap ((IntKind.u64.wrap ((a0 / 4294967296) * (Go.bits .and .u64 a1 4294967295))) + ((IntKind.u64.wrap ((Go.bits .and .u64 a0 4294967295) * (Go.bits .and .u64 a1 4294967295))) / 4294967296))) 4294967295) + (IntKind.u64.wrap ((Go.bits .and .u64 a0 4294967295) * (a1 / 4294967296))))) / 4294967296)), IntKind.u64.wrap (a0 * a1))) = some (r1, r2) := h
 clear h
 simp only [Option.some.injEq, Prod.mk.injEq] at H
 obtain ⟨rfl, rfl⟩ := H
 go_enter Try.func49, Try.ntmps49
 go_wp2
 go_ret2
 exact ⟨by first | rfl | (simp; done) | (simp [*]; done), by repeat (first | exact Drawn0.refl _ | apply Drawn0.step)⟩

/-! ### bits_Mul: function 35 -/
def bits_Mul.f (a0 : Int) (a1 : Int) : Option (Int × Int) := (bits_Mul64.f a0 a1).bind fun bt127 => (some (bt127.1, bt127.2))
set_option maxHeartbeats 8000000 in
set_option maxRecDepth 100000 in
theorem bits_Mul.calls (a0 : Int) (a1 : Int) (r1 : Int) (r2 : Int) (w : World) (h : bits_Mul.f a0 a1 = some (r1, r2)) :
  Calls Try.prog 35 #[.int .u64 a0, .int .u64 a1] w fun e w' => e = .returned (.tuple #[.int .u64 r1, .int .u64 r2]) ∧ Drawn0 w w' := by
 have H : ((bits_Mul64.f a0 a1).bind fun bt127 => (some (bt127.1, bt127.2))) = some (r1, r2) := h
 clear h
 replace H := bM H
 obtain ⟨⟨t127, t128⟩, A30, H⟩ := H
 replace H : (some (t127, t128)) = some (r1, r2) := H
 have A3 := Aside0.mk A30
 clear A30
 simp only [Option.some.injEq, Prod.mk.injEq] at H
 obtain ⟨rfl, rfl⟩ := H
 go_enter Try.func35, Try.ntmps35
 go_wp2_with (first | ((with_reducible refine gate_callee (f := 49) rfl ?_); refine goesL_ (some 25) rfl rfl Try.func49 (by kernel_rfl) rfl #[.int .u64 a0, .int .u64 a1] rfl aO ?_; (with_reducible refine (bits_Mul64.calls a0 a1 t127 t128 _ A3.out).mono ?_); rintro e w' ⟨rfl, ⟨nd, rfl⟩⟩; refine ⟨_, rfl, ?_⟩))
 go_ret2
 exact ⟨by first | rfl | (simp; done) | (simp [*]; done), by repeat (first | exact Drawn0.refl _ | apply Drawn0.step)⟩

/-! ### stringslite_HasPrefix: function 50 -/
def stringslite_HasPrefix.f (a0 : ByteArray) (a1 : ByteArray) : Option (Bool) := if (a0.size : Int) ≥ (a1.size : Int) then (if 0 ≤ (a1.size : Int) then (if (a1.size : Int) ≤ (a0.size : Int) then (some ((a0.extract 0 a1.size).toList == a1.toList)) else (none)) else (none)) else (some false)
set_option maxHeartbeats 8000000 in
set_option maxRecDepth 100000 in
theorem stringslite_HasPrefix.calls (a0 : ByteArray) (a1 : ByteArray) (r : Bool) (w : World) (h : stringslite_HasPrefix.f a0 a1 = some r) :
  Calls Try.prog 50 #[.string a0, .string a1] w fun e w' => e = .returned (.bool r) ∧ Drawn0 w w' := by
 have H : (if (a0.size : Int) ≥ (a1.size : Int) then (if 0 ≤ (a1.size : Int) then (if (a1.size : Int) ≤ (a0.size : Int) then (some ((a0.extract 0 a1.size).toList == a1.toList)) else (none)) else (none)) else (some false)) = some r := h
 clear h
 by_cases c3 : (a0.size : Int) ≥ (a1.size : Int)
 rotate_left
 ·rw [if_neg c3] at H
  have c3b0 : decide ((a1.size : Int) ≤ (a0.size : Int)) = false := decide_eq_false c3
  have c3b1 : decide (a1.size ≤ a0.size) = false := decide_eq_false (fun h => c3 (Int.ofNat_le.mpr h))
  clear c3
  obtain rfl := Option.some.inj H
  go_enter Try.func50, Try.ntmps50
  go_wp2
  go_ret
  exact ⟨by first | rfl | (simp; done) | (simp [*]; done), by repeat (first | exact Drawn0.refl _ | apply Drawn0.step)⟩
 
 rw [if_pos c3] at H
 have c3b0 : decide ((a1.size : Int) ≤ (a0.size : Int)) = true := decide_eq_true c3
 have c3b1 : decide (a1.size ≤ a0.size) = true := decide_eq_true (Int.ofNat_le.mp c3)
 clear c3
 by_cases c4 : 0 ≤ (a1.size : Int)
 rotate_left
 ·rw [if_neg c4] at H
  exact absurd H (by simp)
 rw [if_pos c4] at H
 have c4b0 := eq_true c4
 have c4b1 : decide (0 ≤ (a1.size : Int)) = true := decide_eq_true c4
 clear c4
 by_cases c5 : (a1.size : Int) ≤ (a0.size : Int)
 rotate_left
 ·rw [if_neg c5] at H
  exact absurd H (by simp)
 rw [if_pos c5] at H
 have c5b0 := eq_true c5
 have c5b1 : decide ((a1.size : Int) ≤ (a0.size : Int)) = true := decide_eq_true c5
 clear c5
 obtain ⟨js6, hjs6⟩ : ∃ j_ : ByteArray, (a0.extract 0 a1.size) = j_ := ⟨_, rfl⟩
 replace H : (some ((js6).toList == a1.toList)) = some r := by first | (rw [hjs6] at H; exact H) | (simp only [hjs6] at H ⊢; exact H)
 obtain rfl := Option.some.inj H
 go_enter Try.func50, Try.ntmps50
 go_wp2
 go_ret
 exact ⟨by first | rfl | (simp; done) | (simp only [← hjs6] <;> (first | rfl | simp)) | (simp [*]; done), by repeat (first | exact Drawn0.refl _ | apply Drawn0.step)⟩
/-! ### strings_HasPrefix: function 36 -/
def strings_HasPrefix.f (a0 : ByteArray) (a1 : ByteArray) : Option (Bool) := (stringslite_HasPrefix.f a0 a1).bind fun t129 => (some t129)
set_option maxHeartbeats 8000000 in
set_option maxRecDepth 100000 in
theorem strings_HasPrefix.calls (a0 : ByteArray) (a1 : ByteArray) (r : Bool) (w : World) (h : strings_HasPrefix.f a0 a1 = some r) :
  Calls Try.prog 36 #[.string a0, .string a1] w fun e w' => e = .returned (.bool r) ∧ Drawn0 w w' := by
 have H : ((stringslite_HasPrefix.f a0 a1).bind fun t129 => (some t129)) = some r := h
 clear h
 replace H := bM H
 obtain ⟨t129, A30, H⟩ := H
 replace H : (some t129) = some r := H
 have A3 := Aside0.mk A30
 clear A30
 obtain rfl := Option.some.inj H
 go_enter Try.func36, Try.ntmps36
 go_wp2_with (first | ((with_reducible refine gate_callee (f := 50) rfl ?_); refine goesL_ (some 7) rfl rfl Try.func50 (by kernel_rfl) rfl #[.string a0, .string a1] rfl aO ?_; (with_reducible refine (stringslite_HasPrefix.calls a0 a1 t129 _ A3.out).mono ?_); rintro e w' ⟨rfl, ⟨nd, rfl⟩⟩; refine ⟨_, rfl, ?_⟩))
 go_ret
 exact ⟨by first | rfl | (simp; done) | (simp [*]; done), by repeat (first | exact Drawn0.refl _ | apply Drawn0.step)⟩

-- NOT PRINTED: function 54 (abi_NoEscape)

-- NOT PRINTED: function 51 (strings_Builder_copyCheck)

-- NOT PRINTED: function 55 (bytealg_MakeNoZero)

-- NOT PRINTED: function 52 (strings_Builder_grow)

-- NOT PRINTED: function 37 (strings_Builder_Grow)

-- NOT PRINTED: function 38 (strings_Builder_WriteString)

-- NOT PRINTED: function 39 (strings_Builder_Len)

-- NOT PRINTED: function 40 (strings_Builder_String)

/-! ### strings_Repeat: function 24, by hand -/
def strings_Repeat.f (a0 : ByteArray) (a1 : Int) : Option (ByteArray) := if 0 ≤ a1 then (if a1 ≤ 9223372036854775807 then (if a0.size * a1.toNat ≤ 140737488355328 then (some (⟨(Lib.repeatL a0.data.toList a1.toNat).toArray⟩ : ByteArray)) else (none)) else (none)) else (none)
theorem strings_Repeat.calls (a0 : ByteArray) (a1 : Int) (r : ByteArray) (w : World) (h : strings_Repeat.f a0 a1 = some r) :
  Calls Try.prog 24 #[.string a0, .int .i64 a1] w fun e w' => e = .returned (.string r) ∧ Below w.heap.size w w' := by
 unfold strings_Repeat.f at h
 by_cases h0 : 0 ≤ a1
 rotate_left
 ·rw [if_neg h0] at h
  cases h
 
 
 by_cases h1 : a1 ≤ 9223372036854775807
 rotate_left
 ·rw [if_pos h0, if_neg h1] at h
  cases h
 by_cases h2 : a0.size * a1.toNat ≤ 140737488355328
 rotate_left
 ·rw [if_pos h0, if_pos h1, if_neg h2] at h
  cases h
 rw [if_pos h0, if_pos h1, if_pos h2] at h
 injection h with h
 subst h
 obtain ⟨n, rfl⟩ := Int.eq_ofNat_of_zero_le h0
 rw [Int.toNat_natCast] at h2 ⊢
 exact Try.strings_Repeat a0 n w (by omega) h2
/-! ### sum_step: function 56, by hand -/
def sum_shift (r : Int) : Int := if Go.bits .and .u32 r 1 = 1 then Go.bits .xor .u32 (r / 2) 2197175160 else r / 2
def sum_stepN : Nat → Int → Int
 | 0, r => r
 | n + 1, r => sum_stepN n (sum_shift r)
def sum_step.f (a0 : Int) : Option (Int) := some (sum_stepN 8 a0)
theorem sum_shift.calls (B : Nat) (r : Int) (w : World) (hb : w.heap[B]? = some (.cells #[.int .u32 r] 46 (0, 0))) :
  Calls Try.prog 57 #[.pointer (some ⟨B, 0, none⟩)] w fun e w' => (∃ v, e = .returned v) ∧ w'.heap[B]? = some (.cells #[.int .u32 (sum_shift r)] 46 (0, 0)) ∧ Below B w w' := by
 have hc : w.cell? ⟨B, 0, none⟩ = some (.int .u32 r) := (blk_cell hb 0).trans rfl
 have hf := blk_frozen hb 0
 have BK := Aside0.mk hb
 clear hb
 by_cases c : Go.bits .and .u32 r 1 = 1
 rotate_left
 ·have c0 : (Go.bits .and .u32 r 1 == 1) = false := beq_eq_false_iff_ne.mpr c
  have E : Aside0 (sum_shift r = r / 2) := ⟨if_neg c⟩
  clear c
  go_enter Try.func57, Try.ntmps57
  go_wp2
  go_end0
  exact ⟨⟨_, rfl⟩, by rw [E.out]; exact blk_put BK.out 0 _ rfl, (Below.refl B w).setCell (p := ⟨B, 0, none⟩) (Nat.le_refl _) _⟩
 have c0 : (Go.bits .and .u32 r 1 == 1) = true := beq_iff_eq.mpr c
 have E : Aside0 (sum_shift r = Go.bits .xor .u32 (r / 2) 2197175160) := ⟨if_pos c⟩
 clear c
 go_enter Try.func57, Try.ntmps57
 go_wp2
 go_end0
 exact ⟨⟨_, rfl⟩, by rw [E.out]; exact blk_put (blk_put BK.out 0 _ rfl) 0 _ rfl, ((Below.refl B w).setCell (p := ⟨B, 0, none⟩) (Nat.le_refl _) _).setCell (p := ⟨B, 0, none⟩) (Nat.le_refl _) _⟩
theorem sum_step.calls (a0 : Int) (r : Int) (w : World) (h : sum_step.f a0 = some r) :
  Calls Try.prog 56 #[.int .u32 a0] w fun e w' => e = .returned (.int .u32 r) ∧ Below w.heap.size w w' := by
 obtain rfl := Option.some.inj h
 clear h
 have HB := as_ (Below.refl w.heap.size w)
 go_enter Try.func56, Try.ntmps56
 go_wp2_with (first | ((with_reducible refine gate_dst (N := 1) rfl ?_); refine box_event (by rfl) (N := 1) (by rfl) (cs := #[.int .u32 a0]) (t := 46) gS ?_; intro gb hg w1 hbox hb; have BK := Aside0.mk hbox; have GE := gw hg bA; replace HB := as_ (below_step bA hb); clear hb hbox hg))
 go_loopg [5] 9 (fun kq v5 w' => ∃ (j : Nat) (x : Int), v5 = .int .i64 (j : Int) ∧ Aside0 (j ≤ 8 ∧ kq + j = 9 ∧ sum_stepN (8 - j) x = sum_stepN 8 a0) ∧ Aside0 (w'.heap[gb]? = some (.cells #[.int .u32 x] 46 (0, 0))) ∧ Aside0 (Below w.heap.size w w'))
 case atStart => exact ⟨0, a0, rfl, ⟨⟨by omega, rfl, rfl⟩⟩, BK, HB⟩
 case round =>
  clear HB BK
  obtain ⟨j, x, rfl, HX, BK, HB⟩ := hrel
  by_cases c : j < 8
  rotate_left
  ·have c0 : ¬ (j : Int) < 8 := by omega
   have c1 : decide ((j : Int) < 8) = false := decide_eq_false c0
   clear c0
   have e8 : j = 8 := by have := HX.out; omega
   have hc : wr.cell? ⟨gb, 0, none⟩ = some (.int .u32 x) := (blk_cell BK.out 0).trans rfl
   go_wp2
   go_ret
   refine ⟨?_, by repeat (first | exact HB.out | apply below_alloc | apply pw_below_drewN | apply below_drew1)⟩
   have := HX.out.2.2
   rw [e8] at this
   rw [← this]
   rfl
 
 
  have c0 : (j : Int) < 8 := by omega
  have c1 : decide ((j : Int) < 8) = true := decide_eq_true c0
  clear c0
  go_wp2_with fail
  refine (sum_shift.calls gb x _ (by exact BK.out)).mono ?_
  rintro e w2 ⟨⟨v, rfl⟩, hk, hb⟩
  have n0_ := as_ (HB.out.trans (hb.mono GE.out) : Below w.heap.size w w2)
  have n1_ := Aside0.mk hk
  clear HB BK hb hk
  have HB := n0_
  have BK := n1_
  clear n0_ n1_
  go_wp2
  go_roundg (8 - j)
  case measure => have := HX.out; omega
  case rel =>
   refine ⟨j + 1, sum_shift x, ?_, ⟨by have := HX.out; refine ⟨by omega, by omega, ?_⟩; rw [← this.2.2, show 8 - j = (8 - (j + 1)) + 1 by omega]; rfl⟩, BK, HB⟩
   first | rfl | (simp; done)
-- NOT PRINTED: function 53 (sum_table)

/-! ### sum_More: function 41, by hand -/
def sum_tab : List Int := (List.range 256).map fun i : Nat => sum_stepN 8 (i : Int)
def sum_part (i : Nat) : List Int := (List.range 256).map fun j : Nat => if j < i then sum_stepN 8 (j : Int) else 0
theorem sum_part_zero : sum_part 0 = List.replicate 256 0 := by
 unfold sum_part
 refine List.ext_getElem (by rw [List.length_map, List.length_range, List.length_replicate]) (fun n h1 h2 => ?_)
 rw [List.getElem_map, List.getElem_range, List.getElem_replicate, if_neg (Nat.not_lt_zero _)]
theorem sum_part_all : sum_part 256 = sum_tab := by
 unfold sum_part sum_tab
 refine List.map_congr_left (fun j hj => ?_)
 rw [if_pos (List.mem_range.1 hj)]
theorem sum_part_succ (i : Nat) (h : i < 256) : (sum_part i).set i (sum_stepN 8 (i : Int)) = sum_part (i + 1) := by
 unfold sum_part
 refine List.ext_getElem (by rw [List.length_set, List.length_map, List.length_map]) (fun n h1 h2 => ?_)
 rw [List.getElem_set]
 simp only [List.getElem_map, List.getElem_range]
 by_cases e : i = n
 ·subst e
  rw [if_pos rfl, if_pos (by omega)]
 rw [if_neg e]
 by_cases h3 : n < i
 rotate_left
 ·rw [if_neg h3, if_neg (by omega)]
 rw [if_pos h3, if_pos (by omega)]
def sum_vals (l : List Int) : Array Value := (l.map (Value.int .u32)).toArray
theorem sum_zero_vals : sum_vals (sum_part 0) = Array.replicate 256 (.int .u32 0) := by
 rw [sum_part_zero]
 unfold sum_vals
 rw [List.map_replicate]
 rfl
theorem sum_vals_set (i : Nat) (h : i < 256) : (sum_vals (sum_part i)).setIfInBounds i (.int .u32 (sum_stepN 8 (i : Int))) = sum_vals (sum_part (i + 1)) := by
 unfold sum_vals
 rw [← sum_part_succ i h]
 simp
theorem sum_there {w : World} {g n : Nat} {t : TypeId} {cs : Array Value} (h : w.heap[g]? = some (.cells cs t (0, 0))) (hn : cs.size = n) : w.there g 0 n := fun j hj => by
 rw [Nat.zero_add, blk_cell h j, Array.getElem?_eq_getElem (by omega)]
 exact ⟨rfl, blk_frozen h j⟩
theorem sum_one : (sum_vals sum_tab).all (·.oneCell') = true := by
 rw [Array.all_eq_true_iff_forall_mem]
 intro v hv
 unfold sum_vals at hv
 obtain ⟨x, _, rfl⟩ := List.mem_map.1 (by simpa using hv)
 rfl
theorem set_all_heap {g : Nat} {t : TypeId} : ∀ (vs pre cur : List Value) (w : World), w.heap[g]? = some (.cells (pre ++ cur).toArray t (0, 0)) → cur.length = vs.length → (w.setCells g pre.length vs).heap[g]? = some (.cells (pre ++ vs).toArray t (0, 0))
 | [], pre, cur, w, h, hl => by
  obtain rfl : cur = [] := List.length_eq_zero_iff.1 (by simpa using hl)
  exact h
 | v :: vs, pre, [], w, h, hl => by simp at hl
 | v :: vs, pre, c :: cur, w, h, hl => by
  have := set_all_heap vs (pre ++ [v]) cur (w.setCell ⟨g, pre.length, none⟩ v) (blk_put h pre.length v (by simp)) (by simpa using hl)
  rw [List.append_assoc, List.length_append] at this
  exact this
theorem set_all_below {g n : Nat} {w0 : World} (hg : n ≤ g) : ∀ (vs : List Value) (o : Nat) (w : World), Below n w0 w → Below n w0 (w.setCells g o vs)
 | [], _, _, h => h
 | v :: vs, o, w, h => set_all_below hg vs (o + 1) _ (h.setCell (p := ⟨g, o, none⟩) hg v)
theorem sum_index (W : World) (g : Nat) (q : IntKind) (n : Nat) (h : n < 256) : (Instr.indexAt 96 (.pointer (some ⟨g, 0, none⟩)) (.int q (n : Int))).run Try.prog W = .ok (.pointer (some ⟨g, n, none⟩)) W := by
 have hu : Try.prog.underlying 96 = some (.array (Try.prog.arrayLen 96) (Try.prog.elem 96)) := by kernel_rfl
 have hl : Try.prog.arrayLen 96 = 256 := by kernel_rfl
 have he : Try.prog.elem 96 = 46 := by kernel_rfl
 obtain ⟨i0, hi, hz, hz1, _⟩ := info_parts (show (Try.prog.info? 46).map (fun i => (i.zero, i.size, i.bytes)) = some (some (.int .u32 0), 1, 4) by kernel_rfl)
 rw [run_indexAt_array (h := hu), hl, he, if_pos (by omega)]
 simp [sizeOf, typeInfo, hi, hz1, Result.andThen, Addr.add] <;> omega
set_option maxRecDepth 100000 in
set_option maxHeartbeats 4000000 in
theorem sum_table.calls (w : World) : Calls Try.prog 53 #[] w fun e w' => e = .returned (.agg (sum_vals sum_tab)) ∧ Below w.heap.size w w' := by
 have HB := as_ (Below.refl w.heap.size w)
 go_enter Try.func53, Try.ntmps53
 go_wp2_with (first | ((with_reducible refine gate_dst (N := 0) rfl ?_); refine box_event ?hg (N := 0) ?hd (cs := Array.replicate 256 (.int .u32 0)) (t := 96) ?hr ?_; (case hd => rfl); (case hg => rfl); (case hr => first | (go_simp; done) | (go_simp; rfl)); intro ga hg w0 hbox hb; have BA := Aside0.mk hbox; have GA := gw hg bA; replace HB := as_ (below_step bA hb); clear hb hbox hg) | ((with_reducible refine gate_dst (N := 1) rfl ?_); refine box_event ?hg (N := 1) ?hd (cs := Array.replicate 256 (.int .u32 0)) (t := 96) ?hr ?_; (case hd => rfl); (case hg => rfl); (case hr => first | (go_simp; done) | (go_simp; rfl)); intro gb hg w1 hbox hb; have n0_ := as_ (below_step bA hb); have n1_ := Aside0.mk hbox; have n2_ := gw hg bA; have n3_ := as_ (blk_below BA.out hb); have n4_ := as_ (show ga ≠ gb by rw [hg]; exact Nat.ne_of_lt (blk_lt BA.out)); clear HB BA; have HB := n0_; have BK := n1_; have GE := n2_; have BA := n3_; have NE := n4_; clear n0_ n1_ n2_ n3_ n4_; clear hb hbox hg))
 go_loopg [3] 257 (fun kq v3 w' => ∃ (j : Nat), v3 = .int .i64 (j : Int) ∧ Aside0 (j ≤ 256 ∧ kq + j = 257) ∧ Aside0 (w'.heap[gb]? = some (.cells (sum_vals (sum_part j)) 96 (0, 0))) ∧ Aside0 (w'.heap[ga]? = some (.cells (Array.replicate 256 (.int .u32 0)) 96 (0, 0))) ∧ Aside0 (Below w.heap.size w w'))
 case atStart => exact ⟨0, rfl, ⟨⟨by omega, rfl⟩⟩, ⟨by rw [sum_zero_vals]; exact BK.out⟩, BA, HB⟩
 case round =>
  clear HB BK BA
  obtain ⟨j, rfl, HX, BK, BA, HB⟩ := hrel
  by_cases c : j < 256
  rotate_left
  ·have c1 : decide ((j : Int) < 256) = false := decide_eq_false (by omega)
   obtain rfl : j = 256 := by have := HX.out; omega
   clear c
   have hu : Try.prog.underlying 96 = some (.array 256 46) := by kernel_rfl
   have hi : (Try.prog.info? 96).map (·.size) = some 256 := by kernel_rfl
   have hsz : (sum_vals sum_tab).size = 256 := by unfold sum_vals sum_tab; simp only [List.size_toArray, List.length_map, List.length_range]
   rw [sum_part_all] at BK
   have hrow := as_ (sum_there BA.out (by rw [Array.size_replicate]))
   go_wp2_with (first | ((with_reducible refine gate_dst (N := 12) rfl ?_); refine wpList_load_row rfl 96 (.tmp 1) rfl gb rfl 96 _ _ _ BK.out hu rfl (by rw [hsz]; exact hi) ?_) | (refine wpList_store_mid rfl 96 (.tmp 0) (.tmp 12) rfl ga 0 (sum_vals sum_tab) rfl rfl (by rw [hsz]; exact hrow.out) (by rw [hsz]; exact hi) sum_one ?_))
   have hBA : (wr.setCells ga 0 (sum_vals sum_tab).toList).heap[ga]? = some (.cells (sum_vals sum_tab) 96 (0, 0)) := set_all_heap (sum_vals sum_tab).toList [] (Array.replicate 256 (.int .u32 0)).toList wr (by exact BA.out) (by rw [Array.length_toList, Array.length_toList, hsz, Array.size_replicate])
   have hBB : Below w.heap.size w (wr.setCells ga 0 (sum_vals sum_tab).toList) := set_all_below GA.out _ _ _ HB.out
   exact bodyPost_ret (results_cell_row rfl _ _ ga 96 _ _ _ rfl hBA hu rfl (by rw [hsz]; exact hi)) rfl ⟨rfl, hBB⟩
  have c1 : decide ((j : Int) < 256) = true := decide_eq_true (by omega)
  have hix : ∀ W : World, (Instr.indexAt 96 (.pointer (some ⟨gb, 0, none⟩)) (.int .i64 (j : Int))).run Try.prog W = .ok (.pointer (some ⟨gb, j, none⟩)) W := fun W => sum_index W gb .i64 j c
  have HC := Aside0.mk c
  clear c
  go_wp2_with fail
  refine (sum_step.calls _ (sum_stepN 8 (j : Int)) _ (by rw [show ((j : Int) % 4294967296) = j by have := HC.out; omega]; rfl)).mono ?_
  rintro e w2 ⟨rfl, hb⟩
  have n0_ := as_ (below_step bA hb : Below w.heap.size w w2)
  have n1_ := as_ (blk_below BK.out hb)
  have n2_ := as_ (blk_below BA.out hb)
  clear HB BK BA hb
  have HB := n0_
  have BK := n1_
  have BA := n2_
  clear n0_ n1_ n2_
  obtain ⟨v, hv⟩ : ∃ v, w2.cell? ⟨gb, j, none⟩ = some v := by
   refine ⟨_, (blk_cell BK.out j).trans (Array.getElem?_eq_getElem ?_)⟩
   unfold sum_vals sum_part
   simp only [List.size_toArray, List.length_map, List.length_range]
   exact HC.out
  have hf := blk_frozen BK.out j
  go_wp2
  go_roundg (256 - j)
  case measure => have := HX.out; have := HC.out; omega
  case rel =>
   refine ⟨j + 1, ?_, ⟨by have := HX.out; have := HC.out; exact ⟨by omega, by omega⟩⟩, ⟨?_⟩, ⟨?_⟩, ⟨below_set HB.out GE.out⟩⟩
   ·have h1 := HC.out
    rw [show wrap64 ((j : Int) + 1) = ((j + 1 : Nat) : Int) by unfold wrap64; omega]
   ·exact blk_put BK.out j _ (sum_vals_set j HC.out)
   ·exact blk_far BA.out (by exact NE.out) _
def sum_turn (r b : Int) : Int := Go.bits .xor .u32 (sum_stepN 8 (Go.bits .xor .u8 (r % 256) b)) (r / 256)
def sum_More.f (a0 : Int) (a1 : ByteArray) : Option (Int) := if a1.size ≤ 9223372036854775806 then some (Go.bits .xor .u32 IntKind.u32.max ((bytesOf a1).foldl sum_turn (Go.bits .xor .u32 IntKind.u32.max a0))) else none
theorem sum_tab_at (n : Nat) (h : n < 256) : (sum_vals sum_tab)[n]? = some (.int .u32 (sum_stepN 8 (n : Int))) := by
 unfold sum_vals sum_tab
 simp only [List.map_map, List.getElem?_toArray, List.getElem?_map, List.getElem?_range h, Option.map_some, Function.comp]
set_option maxRecDepth 100000 in
set_option maxHeartbeats 4000000 in
theorem sum_More.calls (a0 : Int) (a1 : ByteArray) (r : Int) (w : World) (h : sum_More.f a0 a1 = some r) :
  Calls Try.prog 41 #[.int .u32 a0, .string a1] w fun e w' => e = .returned (.int .u32 r) ∧ Below w.heap.size w w' := by
 unfold sum_More.f at h
 by_cases hs : a1.size ≤ 9223372036854775806
 case neg => rw [if_neg hs] at h; cases h
 rw [if_pos hs] at h
 have HSZ := Aside0.mk hs
 clear hs
 have H := as_ (Option.some.inj h)
 clear h
 have HB := as_ (Below.refl w.heap.size w)
 have hi : (Try.prog.info? 96).map (·.size) = some 256 := by kernel_rfl
 have hsz : (sum_vals sum_tab).size = 256 := by unfold sum_vals sum_tab; simp only [List.size_toArray, List.length_map, List.length_range]
 obtain ⟨x0, hx0⟩ : ∃ x0, Go.bits .xor .u32 IntKind.u32.max a0 = x0 := ⟨_, rfl⟩
 rw [hx0] at H
 go_enter Try.func41, Try.ntmps41
 go_wp2_with fail
 refine (sum_table.calls _).mono ?_
 rintro e w1 ⟨rfl, hb⟩
 have n0_ := as_ (below_step bA hb : Below w.heap.size w w1)
 clear HB hb
 have HB := n0_
 clear n0_
 go_wp2_with (first | ((with_reducible refine gate_dst (N := 5) rfl ?_); refine box_event ?hg (N := 5) ?hd (cs := Array.replicate 256 (.int .u32 0)) (t := 96) ?hr ?_; (case hd => rfl); (case hg => rfl); (case hr => first | (go_simp; done) | (go_simp; rfl)); intro gb hg w2 hbox hb; have BK := Aside0.mk hbox; have GE := gw hg bA; have HT := as_ (sum_there hbox (by rw [Array.size_replicate])); replace HB := as_ (below_step bA hb); clear hb hbox hg) | (refine wpList_store_mid rfl 96 (.tmp 5) (.tmp 8) rfl gb 0 (sum_vals sum_tab) rfl rfl (by rw [hsz]; exact HT.out) (by rw [hsz]; exact hi) sum_one ?_; have hBK : (w2.setCells gb 0 (sum_vals sum_tab).toList).heap[gb]? = some (.cells (sum_vals sum_tab) 96 (0, 0)) := set_all_heap (sum_vals sum_tab).toList [] (Array.replicate 256 (.int .u32 0)).toList w2 (by exact BK.out) (by rw [Array.length_toList, Array.length_toList, hsz, Array.size_replicate]); have hBB : Below w.heap.size w (w2.setCells gb 0 (sum_vals sum_tab).toList) := set_all_below GE.out _ _ _ HB.out; generalize w2.setCells gb 0 (sum_vals sum_tab).toList = w3 at hBK hBB ⊢; clear BK HB HT; have BK := Aside0.mk hBK; have HB := Aside0.mk hBB; clear hBK hBB))
 go_loopg [6, 13] (a1.size + 1) (fun kq v6 v13 w' => ∃ (j : Nat), v6 = .int .u32 ((List.take j (bytesOf a1)).foldl sum_turn x0) ∧ v13 = .int .i64 (j : Int) ∧ Aside0 (j ≤ a1.size ∧ kq + j = a1.size + 1) ∧ Aside0 (w'.heap[gb]? = some (.cells (sum_vals sum_tab) 96 (0, 0))) ∧ Aside0 (Below w.heap.size w w'))
 case atStart => exact ⟨0, by rw [List.take_zero]; rfl, rfl, ⟨by omega, by omega⟩, BK, HB⟩
 case round =>
  clear HB BK
  obtain ⟨j, rfl, rfl, HX, BK, HB⟩ := hrel
  obtain ⟨x, hx⟩ : ∃ x, (List.take j (bytesOf a1)).foldl sum_turn x0 = x := ⟨_, rfl⟩
  rw [hx]
  have HXX := Aside0.mk hx
  clear hx
  by_cases c : j < a1.size
  rotate_left
  ·have c1 : decide ((j : Int) < (a1.size : Int)) = false := decide_eq_false (by omega)
   have c2 : decide (j < a1.size) = false := decide_eq_false c
   have HC := Aside0.mk c
   clear c
   go_wp2
   go_ret
   refine ⟨?_, by repeat (first | exact HB.out | apply below_alloc | apply pw_below_drewN | apply below_drew1)⟩
   have ej : j = a1.size := by have := HX.out; have := HC.out; omega
   rw [← H.out, ← HXX.out, ej, List.take_of_length_le (by rw [bytesOf_length]; exact Nat.le_refl _)]
   rfl
 
 
  have c0 : ((j : Int) < (a1.size : Int)) = True := eq_true (by omega)
  have c00 : (0 ≤ (j : Int)) = True := eq_true (by omega)
  have c1 : decide ((j : Int) < (a1.size : Int)) = true := decide_eq_true (by omega)
  have c2 : decide (j < a1.size) = true := decide_eq_true c
  have hbt : ∀ h : j < a1.size, ((a1[j]'h).toNat : Int) = bt a1 (j : Int) := bt_at a1 (j : Int)
  obtain ⟨b, hb⟩ : ∃ b, bt a1 (j : Int) = b := ⟨_, rfl⟩
  rw [hb] at hbt
  have hlo := (bits_within .xor .u8 (x % 256) b).1
  have hhi := (bits_within .xor .u8 (x % 256) b).2
  obtain ⟨n, hn⟩ : ∃ n : Nat, Go.bits .xor .u8 (x % 256) b = (n : Int) := Int.eq_ofNat_of_zero_le hlo
  have hn2 : n < 256 := by rw [hn] at hhi; have : ((n : Int) ≤ 255) := hhi; omega
  have hcl : wr.cell? ⟨gb, n, none⟩ = some (.int .u32 (sum_stepN 8 (n : Int))) := (blk_cell BK.out n).trans (sum_tab_at n hn2)
  have HN := Aside0.mk hn
  have HC := Aside0.mk c
  have HBT := Aside0.mk hb
  have hn2' : ((n : Int) < 256) = True := eq_true (by omega)
  clear c hlo hhi hn2 hb
  go_wp2
  go_roundg (a1.size - j)
  case measure => have := HX.out; have := HC.out; omega
  case rel =>
   refine ⟨j + 1, ?_, ?_, ⟨by have := HX.out; have := HC.out; omega, by have := HX.out; have := HC.out; omega⟩, BK, HB⟩
   ·have hlen : j < (bytesOf a1).length := by rw [bytesOf_length]; exact HC.out
    have e1 : (bytesOf a1)[j] = b := by
     rw [← HBT.out, ← rd_bytesOf]
     unfold rd
     simp [List.getD_eq_getElem?_getD, List.getElem?_eq_getElem hlen]
    rw [List.take_succ_eq_append_getElem hlen, List.foldl_append, HXX.out, e1]
    show _ = Value.int .u32 (sum_turn x b)
    unfold sum_turn
    rw [HN.out]
   ·have h1 := HC.out
    have h2 : a1.size ≤ 9223372036854775806 := HSZ.out
    rw [show wrap64 ((j : Int) + 1) = ((j + 1 : Nat) : Int) by unfold wrap64; omega]
/-! ### sum_Table: function 25 -/
def sum_Table.f (a0 : ByteArray) : Option (Int) := (sum_More.f 0 a0).bind fun t130 => (some t130)
set_option maxHeartbeats 8000000 in
set_option maxRecDepth 100000 in
theorem sum_Table.calls (a0 : ByteArray) (r : Int) (w : World) (h : sum_Table.f a0 = some r) :
  Calls Try.prog 25 #[.string a0] w fun e w' => e = .returned (.int .u32 r) ∧ Below w.heap.size w w' := by
 have HB := as_ (Below.refl w.heap.size w)
 have H : ((sum_More.f 0 a0).bind fun t130 => (some t130)) = some r := h
 clear h
 replace H := bM H
 obtain ⟨t130, A20, H⟩ := H
 replace H : (some t130) = some r := H
 have A2 := Aside0.mk A20
 clear A20
 obtain rfl := Option.some.inj H
 go_enter Try.func25, Try.ntmps25
 go_wp2_with (first | ((with_reducible refine gate_callee (f := 41) rfl ?_); refine goesL_ (some 4) rfl rfl Try.func41 (by kernel_rfl) rfl #[.int .u32 0, .string a0] rfl aO ?_; (with_reducible refine (sum_More.calls 0 a0 t130 _ A2.out).mono ?_); rintro e w3 ⟨rfl, hb⟩; refine ⟨_, rfl, ?_⟩; replace HB := as_ (below_step bA hb); (try clear hb); (try clear hb2); (try clear hk); (try clear hi)))
 go_ret
 exact ⟨eW, by repeat (first | (with_reducible first | exact HB.out | apply below_alloc | apply pw_below_drewN | apply below_drew1) | exact HB.out)⟩

end Go.Proofs.Ytnfnmjjdcaphjaa.P
